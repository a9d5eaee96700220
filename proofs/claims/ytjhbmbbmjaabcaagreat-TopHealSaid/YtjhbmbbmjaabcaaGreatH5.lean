/-
  Contracts of the program's functions, in order. Conditions stand at each.
-/
import Derived.Test.YtjhbmbbmjaabcaaGreatH4
set_option linter.unusedVariables false
set_option maxRecDepth 8000
set_option maxHeartbeats 8000000
namespace Go.Proofs.YtjhbmbbmjaabcaaGreat
section
open Go Go.Sort Go.RowKit
def castO (s:NdD) (od lv:Int) (da:ByteArray):Option NdD:=
 if inV s&&(mayB ⟨s.id,s.bt,s.sq+1,od,lv,0,da⟩&&(decide (s.P.length<4)&&decide (s.sq<1000000))) then some { s with sq:=s.sq+1,P:=s.P++[⟨s.id,s.bt,s.sq+1,od,lv,0,da⟩] } else none
variable {w w4:World} {o o4:Ow} {k x wb jd:Nat} {A A':AdD} {s s':NdD}
theorem ncast_any (hcl:Cl w o) (hk:32≤k) (h:NodeP w o k x wb jd A s) {od lv:Int} {da:ByteArray} (hs:castO s od lv da=some s') :
  Calls Tryz.prog 118 #[ptrN x,.int .i64 od,.int .i64 lv,.string da] w fun e w'=>e=.returned (.int .i64 0)∧∃ o' A',NodeP w' o' k x wb jd A' s'∧Fm (ndC k) o o' w w':=by
 unfold castO at hs
 split at hs
 case isFalse=>cases hs
 rename_i hcc
 simp only [Bool.and_eq_true,decide_eq_true_eq] at hcc
 have HCC:=hI hcc
 have HSS:=hI (Option.some.inj hs)
 have H:=hI h
 have HK:=hI hk
 have HC:=hI hcl
 clear hcl hk h hs hcc
 go_enter Tryz.func118,Tryz.ntmps118
 go_wp2_with fail
 refine (nin_any H.o).mono ?_
 rw [HCC.o.1]
 rintro e w2 ⟨rfl,x2⟩
 have H2:=hI (H.o.ext x2)
 have M2:=hI (Fm.ext (C:=ndC k) HC.o x2)
 clear x2 H HC
 have c13:=H2.o.c 13 _ rfl
 go_wp2_with fail
 refine (paddp_any M2.o.cl H2.o.q.pn (by have:=HK.o;omega) ⟨H2.o.ok.sq.1,by have:=H2.o.ok.sq.2;omega⟩ (mayB_ok HCC.o.2.1) HCC.o.2.1 HCC.o.2.2.1).mono ?_
 rintro e w3 ⟨o3,rfl,pn3,m3⟩
 obtain ⟨N3,F3⟩:=NodeP.mod0 (A':=A) (s':={ s with sq:=s.sq+1,P:=s.P++[⟨s.id,s.bt,s.sq+1,od,lv,0,da⟩] }) HK.o H2.o m3 (fun d hd=>by unfold two at hd;unfold ndC;omega) (H2.o.q.set_pn HK.o pn3 m3 (fun d hd=>by unfold two at hd;omega)) rfl { H2.o.ok with sq:=(by have h1:=HCC.o.2.2.2;have h2:=H2.o.ok.sq;show 0≤s.sq+1∧s.sq+1≤1000000;omega),P:=(fun e he=>by
  rcases List.mem_append.1 he with he | he
  ·exact H2.o.ok.P e he
  ·simp at he
   rw [he]
   exact HCC.o.2.1) }
 rw [HSS.o] at N3
 have H3:=hI N3
 have M3:=hI (M2.o.tr F3 (nd0 HK.o))
 clear N3 F3 pn3 m3 c13 H2 M2
 go_wp2
 go_ret
 exact ⟨rfl,o3,A,H3.o.ext (Ext.alloc w3 _),M3.o.tr (Fm.ext M3.o.cl (Ext.alloc w3 _)) (nd0 HK.o)⟩
structure ClV (w:World) (o:Ow) (g x:Nat):Prop where
 col:o g=0
 hi:g<w.heap.size
 c0:w.cell? ⟨g,0,none⟩=some (ptrN x)
theorem ClV.ext {g:Nat} (h:ClV w o g x) (e:Ext w w4):ClV w4 o g x:=⟨h.col,Nat.lt_of_lt_of_le h.hi e.size,Ext.cell e h.c0⟩
theorem ClV.fr {C:Nat→Prop} {g:Nat} (h:ClV w o g x) (k:Fm C o o4 w w4) (h0:¬ C 0):ClV w4 o4 g x:=
 ⟨(k.at h.hi (by rw [h.col];exact h0)).trans h.col,Nat.lt_of_lt_of_le h.hi k.size,(World.cell?_of_block (k.blk g h.hi (by rw [h.col];omega) (by rw [h.col];exact h0))).trans h.c0⟩
theorem cnew_any (hcl:Cl w o) (x:Nat) :
  Calls Tryz.prog 102 #[ptrN x] w fun e w'=>∃ g,e=.returned (ptrN g)∧ClV w' o g x∧Ext w w':=by
 have HC:=hI hcl
 clear hcl
 go_enter Tryz.func102,Tryz.ntmps102
 go_wp2
 go_ret
 exact ⟨w.heap.size,rfl,⟨HC.o _ (Nat.le_refl _),by simp,news_at (w:=w) rfl 0 _ rfl⟩,Ext.alloc w _⟩
theorem cnode_any {g:Nat} (h:ClV w o g x) :
  Calls Tryz.prog 117 #[ptrN g] w fun e w'=>e=.returned (ptrN x)∧w=w':=by
 have c0:=h.c0
 clear h
 go_enter Tryz.func117,Tryz.ntmps117
 go_wp2
 go_ret
 trivial
theorem ccast_any {g:Nat} (hcl:Cl w o) (hk:32≤k) (hg:ClV w o g x) (h:NodeP w o k x wb jd A s) {od lv:Int} {da:ByteArray} (hs:castO s od lv da=some s') :
  Calls Tryz.prog 88 #[ptrN g,.int .i64 od,.int .i64 lv,.string da] w fun e w'=>e=.returned (.int .i64 0)∧∃ o' A',NodeP w' o' k x wb jd A' s'∧Fm (ndC k) o o' w w':=by
 have CA:=hI (ncast_any hcl hk h hs)
 have CN:=hI (cnode_any hg)
 clear hcl hk hg h hs
 go_enter Tryz.func88,Tryz.ntmps88
 go_wp2_with fail
 refine CN.o.mono ?_
 rintro e w2 ⟨rfl,rfl⟩
 go_wp2_with fail
 refine CA.o.mono ?_
 rintro e w2 ⟨rfl,o2,A2,n2,m2⟩
 have N2:=hI n2
 have M2:=hI m2
 clear n2 m2
 go_wp2
 go_ret
 exact ⟨rfl,o2,A2,N2.o,M2.o⟩
end
section
open Go Go.Sort Go.RowKit
def QF (w:World) (ds ds':List MailD):Prop:=∀ d ∈ ds',∀ i,d.q.map (·.block)=some i→(∃ e ∈ ds,e.q.map (·.block)=some i)∨w.heap.size≤i
theorem QF.add {w:World} {ds ds':List MailD} {d:MailD} (h:QF w ds ds') (hd:∀ i,d.q.map (·.block)=some i→w.heap.size≤i):QF w ds (ds'++[d]):=by
 intro e he i hi
 rcases List.mem_append.1 he with he | he
 ·exact h e he i hi
 ·simp at he
  subst he
  exact .inr (hd i hi)
theorem nsendF_any {w:World} {g cap:Nat} {p:Option Addr} {ds:List MailD} (h:NetV w g p cap ds) {q:Option Addr} {n c:Nat} {xs:List MsgD}
  (hq:SlS 13 w q n c (xs.map msgL)) (hx:∀ x ∈ xs,MsgOk w x) (s1:Sep g p q) (s2:∀ x ∈ xs,Sep g p x.p) :
  Calls Tryz.prog 83 #[.pointer (some ⟨g,0,none⟩),.slice q n c] w fun e w'=>∃ p' cap' ds',e=.returned (.int .i64 ((ds'.length:Int)-(ds.length:Int)))∧NetV w' g p' cap' ds'∧ds'.map mkD=sendK (ds.map mkD) xs∧Mv w w' g p∧Fr w p p'∧QF w ds ds':=by
 have c0:=h.box.c 0 _ rfl
 have N0:=hI h
 have Q0:=hI hq
 have X0:=hI hx
 have S1:=hI s1
 have S2:=hI s2
 obtain ⟨i0,hi0,hz0,hz1,hz2⟩:=info_parts info_mail
 have HLN:Hid (xs.length=n):=hI (by have:=hq.len;simpa using this)
 have HI0:=hI hi0
 have hnm:n≤9223372036854775807:=Nat.le_trans Q0.o.le Q0.o.max
 clear h hq hx s1 s2 hi0
 go_enter Tryz.func83,Tryz.ntmps83
 go_wp2
 clear c0
 go_loopw [18] (fun i wr=>∃ (k:Nat) (p':Option Addr) (cap':Nat) (ds':List MailD),k≤n∧i=.int .i64 (k:Int)∧NetV wr g p' cap' ds'∧ds'.map mkD=sendK (ds.map mkD) (xs.take k)∧Mv w wr g p∧Fr w p p'∧QF w ds ds') (fun i _=>n-(intOf i).toNat)
 case atStart=>exact ⟨0,p,cap,ds,by omega,rfl,N0.o,rfl,Mv.refl _ _ _,fun i hi=>.inl hi,fun d hd i hi=>.inl ⟨d,hd,hi⟩⟩
 case round=>
  obtain ⟨k,p',cap',ds',hk,rfl,hN,hm,hM,hF,hQ⟩:=hrel
  have NN:=hI hN
  have HM:=hI hm
  have MM:=hI hM
  have FF:=hI hF
  have QQ:=hI hQ
  clear hN hm hM hF hQ
  by_cases hlt:k<n
  ·obtain ⟨b,o,hp,hc⟩:=(Q0.o.mv MM.o S1.o.1 S1.o.2).cells (by omega)
   have hkx:k<xs.length:=by rw [HLN.o];exact hlt
   obtain ⟨x,hxk⟩:∃ x,x=xs[k]:=⟨_,rfl⟩
   have hxm:x ∈ xs:=by rw [hxk];simp
   have hrow:(xs.map msgL)[k]?=some (msgL x):=by rw [hxk];simp [hkx]
   have HRC:Hid (wr.rangeAt b (o+k * 13) (msgL x)):=hI (fun j v hv=>by rw [Nat.add_assoc];exact hc k _ hrow j v hv)
   have HS:Hid (sendK (ds.map mkD) (xs.take (k+1))=stepK (sendK (ds.map mkD) (xs.take k)) x):=hI (by rw [hxk];exact sendK_take hkx)
   have MX:=hI (X0.o x hxm)
   have SX:=hI (S2.o x hxm)
   clear hc hrow hxk hxm hkx
   subst hp
   have hlt':(k:Int)<(n:Int):=by omega
   obtain ⟨xm,xp,xc,xL⟩:=x
   go_upto_region 6 with fail
   go_cut [7] (fun s7 wx=>s7=.pointer (some ⟨wr.heap.size,0,none⟩)∧wx=(wr.alloc (.cells (msA zeroM none 0 0) 76)).setCells wr.heap.size 0 (msL xm xp xL.length xc))
   case first=>
    have TH:Hid ((wr.alloc (.cells (msA zeroM none 0 0) 76)).there wr.heap.size 0 13):=hI (nthere (BoxV.new wr wr.heap.size (msA zeroM none 0 0) (msL zeroM none 0 0) 76 wr.heap.size rfl (Nat.le_refl _) (by rfl)))
    go_wp2_with (first | ((with_reducible (refine wpList_load_mid (op:=⟨some 21,.load 76 (.tmp 20),_,_,_,_⟩) ?_ 76 (.tmp 20) ?_ b (o+k * 13) ?_ (msL xm xp xL.length xc) _ ?_ Tryz.underlying76 ?_ ?_ ?_));(rfl);(rfl);(rfl);exact HRC.o;(rfl);exact msg_size) | ((with_reducible (refine wpList_store_mid (op:=⟨none,.store 76 (.tmp 7) (.tmp 21),_,_,_,_⟩) ?_ 76 (.tmp 7) (.tmp 21) ?_ wr.heap.size 0 (msA xm xp xL.length xc) ?_ ?_ ?_ ?_ ?_ ?_));(rfl);(rfl);(rfl);(rfl);exact TH.o;exact msg_size;exact msg_one _ _ _ _))
    go_meet
    exact ⟨rfl,rfl⟩
   case rest=>
   obtain ⟨rfl,rfl⟩:=hcut
   have MB:Hid (BoxV ((wr.alloc (.cells (msA zeroM none 0 0) 76)).setCells wr.heap.size 0 (msL xm xp xL.length xc)) wr.heap.size wr.heap.size (msL xm xp xL.length xc)):=hI (by rw [nfill];exact (BoxV.new wr wr.heap.size (msA zeroM none 0 0) (msL zeroM none 0 0) 76 wr.heap.size rfl (Nat.le_refl _) (by rfl)).fill (Nat.le_refl _))
   have AO:Hid (Ext wr ((wr.alloc (.cells (msA zeroM none 0 0) 76)).setCells wr.heap.size 0 (msL xm xp xL.length xc))):=hI (by rw [nfill];exact fillV_below (Ext.alloc wr _) (Nat.le_refl _) _ 0)
   replace NN:=hI (NN.o.ext AO.o)
   replace MM:=hI (MM.o.tr (Mv.ext AO.o g p))
   clear HRC
   generalize (wr.alloc (.cells (msA zeroM none 0 0) 76)).setCells wr.heap.size 0 (msL xm xp xL.length xc)=w2 at *
   generalize wr.heap.size=sg at *
   clear AO
   have HRB:Hid (w2.rangeAt sg 0 (msL xm xp xL.length xc)):=hI (fun j v hv=>by rw [Nat.zero_add];exact MB.o.c j v hv)
   go_wp2_with ((with_reducible (refine wpList_load_mid (op:=⟨some 22,.load 76 (.tmp 7),_,_,_,_⟩) ?_ 76 (.tmp 7) ?_ sg 0 ?_ (msL xm xp xL.length xc) _ ?_ Tryz.underlying76 ?_ ?_ ?_));(rfl);(rfl);(rfl);exact HRB.o;(rfl);exact msg_size)
   refine (wencode_any (m:=xm) (L:=xL) MX.o.ok (MX.o.sl.mv MM.o SX.o.1 SX.o.2) MX.o.en).mono ?_
   rintro e w3 ⟨p3,c3,rfl,o3,hiff,x3⟩
   have HEL:Hid ((encM xm xL).length≤5294):=hI (encM_len MX.o.ok MX.o.en)
   have HG2:Hid (g<w2.heap.size):=hI NN.o.box.hi
   have HP2:Hid (∀ i,p'.map (·.block)=some i→i<w2.heap.size):=hI (fun i hi=>(NN.o.row.lt i hi).2)
   have HW2:Hid (w.heap.size≤w2.heap.size):=hI MM.o.size
   have X3:=hI x3
   replace NN:=hI (NN.o.ext x3)
   replace MM:=hI (MM.o.tr (Mv.ext x3 g p))
   replace MB:=hI (MB.o.ext x3)
   have O3:=hI o3
   clear x3 o3 HRB
   cases hmay:mayM xm xL
   ·have hpn:=hiff.2 hmay
    have HEN:=hI (encM_no hmay)
    have HST:Hid (stepK (sendK (ds.map mkD) (xs.take k)) ⟨xm,xp,xc,xL⟩=sendK (ds.map mkD) (xs.take k)):=hI (by simp [stepK,hmay])
    subst hpn
    clear hiff hmay
    go_wp2
    go_roundw
    case rel=>exact ⟨k+1,p',cap',ds',by omega,by go_num,NN.o,by rw [HS.o,HST.o];exact HM.o,MM.o,FF.o,QQ.o⟩
    case measure=>simp [intOf];omega
   ·obtain ⟨pa,rfl⟩:∃ pa,p3=some pa:=by
     cases p3 with
     | none=>exact absurd (hiff.1 rfl) (by rw [hmay];decide)
     | some pa=>exact ⟨pa,rfl⟩
    clear hiff
    have HKL:Hid ((sendK (ds.map mkD) (xs.take k)).length=ds'.length):=hI (by rw [← HM.o];simp)
    have c0:=NN.o.box.c 0 _ rfl
    have cf:=NN.o.box.f
    by_cases hfull:ds'.length<400
    ·have d1:decide ((ds'.length:Int)<400)=true:=by simp;omega
     have m2:=MB.o.c 2 _ rfl
     try simp only at m2
     have HST:Hid (stepK (sendK (ds.map mkD) (xs.take k)) ⟨xm,xp,xc,xL⟩=sendK (ds.map mkD) (xs.take k)++[(xm.to,encM xm xL)]):=hI (by simp [stepK,hmay,HKL.o,hfull])
     clear hmay
     have A1:=hI (Ext.alloc w3 (.cells #[.int .i64 xm.to,.slice (some pa) (encM xm xL).length c3] 119))
     have A2:=hI (A1.o.tr (Ext.drew (w3.alloc (.cells #[.int .i64 xm.to,.slice (some pa) (encM xm xL).length c3] 119))))
     have HB3:Hid (g+1≤(w3.alloc (.cells #[.int .i64 xm.to,.slice (some pa) (encM xm xL).length c3] 119)).drew.heap.size):=hI (by have:=NN.o.box.hi;have:=A2.o.size;omega)
     have BX2:=hI (NN.o.box.ext A2.o)
     have RW2:=hI ((NN.o.row.ext A1.o).ext (Ext.drew _)).2.2
     have hl9:ds'.length+1≤400:=by omega
     have b0:=(NN.o.box.ext A1.o).c 0 _ rfl
     have m20:=(MB.o.ext A1.o).c 2 _ rfl
     try simp only at b0 m20
     go_wp2_with fail
     go_region_law (refine step_append_lies _ (by rfl) _ _ _ (by rfl) (g+1) 119 i0 _ 2 32 Tryz.underlying110 HI0.o hz0 hz1 hz2 rfl (by omega) (.slice p' ds'.length cap') ds'.length _ (by rfl) RW2.o ⟨w3.heap.size,0,none⟩ 1 1 [.int .i64 xm.to,.slice (some pa) (encM xm xL).length c3] (by rfl) (by rfl) (World.news_of_block (cs:=#[.int .i64 xm.to,.slice (some pa) (encM xm xL).length c3]) (t:=119) (fr:=(0,0)) (heap_alloc_new w3 _)) (by simp [Value.oneCell']) (by omega) (by unfold maxLen;omega) (by omega) HB3.o (w3.heap.size+1) (by simp) ?_;intro g4 c4 w4 o4 gr4 l4 lt4;have D4:=hI (BX2.o.other gr4 (by rw [ownBlock_slice];exact NN.o.pne));have b4:=D4.o.c 0 _ rfl;have f4:=D4.o.f 0)
     all_goals
      have M4:Hid (Mv w3 w4 g p'):=hI ((Mv.ext A2.o g p').tr (Mv.row (by rw [ownBlock_slice] at gr4;exact gr4) g))
      have F4:Hid (Fr w p (some ⟨g4,0,none⟩)):=hI (fun i hi=>by
       cases hi
       rcases l4 with l4 | l4
       ·rw [ownBlock_slice] at l4
        exact FF.o _ l4
       ·have:=MM.o.size
        exact .inr (by simp only;omega))
      have MG:Hid (Mv w3 (w4.setCell ⟨g,0,none⟩ (.slice (some ⟨g4,0,none⟩) (ds'.length+1) c4)) g p'):=hI (M4.o.tr (Mv.self (grown_put (grown_refl w4 (some g)) 0 (.slice (some ⟨g4,0,none⟩) (ds'.length+1) c4)) p'))
      have NV:Hid (NetV (w4.setCell ⟨g,0,none⟩ (.slice (some ⟨g4,0,none⟩) (ds'.length+1) c4)) g (some ⟨g4,0,none⟩) c4 (ds'++[⟨xm.to,some pa,c3,encM xm xL⟩])):=hI (NN.o.more (d:=⟨xm.to,some pa,c3,encM xm xL⟩) hfull HEL.o (O3.o.mono (by have:=HG2.o;omega)) (fun e=>by have:=(O3.o.lt g e).1;have:=HG2.o;omega) (fun i hi e=>by have:=(O3.o.lt i e).1;have:=HP2.o i hi;omega) (NN.o.row.app rfl o4) M4.o D4.o)
      clear o4 gr4 l4 lt4 D4 b4 f4 M4 A1 A2 BX2 RW2 b0 m20 c0 cf m2 hfull d1 HB3
      generalize w4.setCell ⟨g,0,none⟩ (.slice (some ⟨g4,0,none⟩) (ds'.length+1) c4)=w5 at *
      go_wp2
      go_roundw
      case rel=>exact ⟨k+1,_,c4,_,by omega,by go_num,NV.o,by rw [HS.o,HST.o,← HM.o];simp [mkD],MM.o.tr2 MG.o FF.o,F4.o,QQ.o.add (fun i hi=>by have h1:=(O3.o.lt i hi).1;have h2:=HW2.o;omega)⟩
      case measure=>simp [intOf];omega
    ·have d1:decide ((ds'.length:Int)<400)=false:=by simp;omega
     have HST:Hid (stepK (sendK (ds.map mkD) (xs.take k)) ⟨xm,xp,xc,xL⟩=sendK (ds.map mkD) (xs.take k)):=hI (by simp [stepK,hmay,HKL.o,hfull])
     clear hmay cf
     go_wp2
     go_roundw
     case rel=>exact ⟨k+1,p',cap',ds',by omega,by go_num,NN.o,by rw [HS.o,HST.o];exact HM.o,MM.o,FF.o,QQ.o⟩
     case measure=>simp [intOf];omega
  ·obtain rfl:k=n:=by omega
   have c0:=NN.o.box.c 0 _ rfl
   have HT:Hid (xs.take k=xs):=hI (by rw [← HLN.o];exact List.take_length)
   have h4:=NN.o.max
   have h40:=N0.o.max
   have e4:wrap64 ((ds'.length:Int)-(ds.length:Int))=(ds'.length:Int)-(ds.length:Int):=by unfold wrap64;omega
   go_wp2
   go_ret
   exact ⟨p',cap',ds',rfl,NN.o,by rw [HM.o,HT.o],MM.o,FF.o,QQ.o⟩
def netC (d:Nat):Prop:=d=24∨d=25
structure NetC (w:World) (o:Ow) (g:Nat) (p:Option Addr) (cap:Nat) (ds:List MailD):Prop where
 nv:NetV w g p cap ds
 cg:o g=24
 cp:∀ i,p.map (·.block)=some i→o i=25
 cq:∀ d ∈ ds,∀ i,d.q.map (·.block)=some i→o i=0
theorem OwP.fr {C:Nat→Prop} {w w':World} {o o':Ow} {base n cap:Nat} {q:Option Addr} {l:List UInt8} (h:OwP w base q n cap l) (k:Fm C o o' w w') (hc:∀ i,q.map (·.block)=some i→o i≠1∧¬ C (o i)):OwP w' base q n cap l:=
 ⟨h.1,owns_same h.2 fun i hi=>by
  have hi':q.map (·.block)=some i:=by rwa [ownBlock_slice] at hi
  exact k.blk i (h.lt i hi').2 (hc i hi').1 (hc i hi').2⟩
theorem NetC.fr {C:Nat→Prop} {w w':World} {o o':Ow} {g cap:Nat} {p:Option Addr} {ds:List MailD} (h:NetC w o g p cap ds) (k:Fm C o o' w w') (h0:¬ C 0) (h24:¬ C 24) (h25:¬ C 25):NetC w' o' g p cap ds:=by
 have b:=(BoxC.fr (c:=24) ⟨h.cg,h.nv.box.base (Nat.zero_le _)⟩ k (by decide) h24)
 refine ⟨⟨⟨Nat.le_refl _,b.box.hi,b.box.c,b.box.f⟩,OwS.fr h.nv.row k (fun i hi=>by rw [h.cp i hi];exact ⟨by decide,h25⟩),fun d hd=>OwP.fr (h.nv.own d hd) k (fun i hi=>by rw [h.cq d hd i hi];exact ⟨by decide,h0⟩),h.nv.max,h.nv.small⟩,b.col,fun i hi=>?_,fun d hd i hi=>?_⟩
 ·exact (k.at (h.nv.row.lt i hi).2 (by rw [h.cp i hi];exact h25)).trans (h.cp i hi)
 ·exact (k.at ((h.nv.own d hd).lt i hi).2 (by rw [h.cq d hd i hi];exact h0)).trans (h.cq d hd i hi)
theorem NetC.ext {w w':World} {o:Ow} {g cap:Nat} {p:Option Addr} {ds:List MailD} (h:NetC w o g p cap ds) (k:Ext w w'):NetC w' o g p cap ds:=⟨h.nv.ext k,h.cg,h.cp,h.cq⟩
theorem Fm.mv {w w':World} {o:Ow} {g:Nat} {p:Option Addr} (hcl:Cl w o) (m:Mv w w' g p) (hg:o g=24) (hp:∀ i,p.map (·.block)=some i→o i=25):Fm netC o o w w':=
 ⟨m.os,m.tape,m.output,m.size,fun _ _=>.inl rfl,fun i hi _ hc=>m.block i hi (fun e=>hc (by rw [e,hg];exact .inl rfl)) (fun e=>hc (by rw [hp i e];exact .inr rfl)),
  fun i j hi h1 _=>World.cell?_of_block (m.block i hi (fun e=>by rw [e,hg] at h1;omega) (fun e=>by rw [hp i e] at h1;omega)),
  fun i j hi h1=>World.frozen?_of_block (m.block i hi (fun e=>by rw [e,hg] at h1;omega) (fun e=>by rw [hp i e] at h1;omega)),fun i hi=>hcl i (Nat.le_trans m.size hi)⟩
def encN (x:MsD × List EnD):Int × List UInt8:=(x.1.to,encM x.1 x.2)
def NetN (w:World) (o:Ow) (g:Nat) (ns:List (MsD × List EnD)):Prop:=∃ p cap ds,NetC w o g p cap ds∧ds.map mkD=ns.map encN∧∀ x ∈ ns,mayM x.1 x.2=true
theorem NetN.fr {C:Nat→Prop} {w w':World} {o o':Ow} {g:Nat} {ns:List (MsD × List EnD)} (h:NetN w o g ns) (k:Fm C o o' w w') (h0:¬ C 0) (h24:¬ C 24) (h25:¬ C 25):NetN w' o' g ns:=by
 obtain ⟨p,cap,ds,h,e⟩:=h
 exact ⟨p,cap,ds,h.fr k h0 h24 h25,e⟩
theorem NetN.ext {w w':World} {o:Ow} {g:Nat} {ns:List (MsD × List EnD)} (h:NetN w o g ns) (k:Ext w w'):NetN w' o g ns:=by
 obtain ⟨p,cap,ds,h,e⟩:=h
 exact ⟨p,cap,ds,h.ext k,e⟩
def sendN (ns ms:List (MsD × List EnD)):List (MsD × List EnD):=ms.foldl (fun l x=>if mayF x.1 x.2&&decide (l.length<400) then l++[x] else l) ns
theorem sendN_may:∀ (ms ns:List (MsD × List EnD)),(∀ x ∈ ns,mayM x.1 x.2=true)→∀ x ∈ sendN ns ms,mayM x.1 x.2=true
 | [],_,h=>h
 | y::ms,ns,h=>by
  refine sendN_may ms _ ?_
  show ∀ x ∈ (if mayF y.1 y.2&&decide (ns.length<400) then ns++[y] else ns),mayM x.1 x.2=true
  split
  ·rename_i hc
   rw [Bool.and_eq_true,mayF_is] at hc
   intro x hx
   rcases List.mem_append.1 hx with hx | hx
   ·exact h x hx
   ·simp at hx
    subst hx
    exact hc.1
  ·exact h
theorem sendK_N:∀ (xs:List MsgD) (l:List (Int × List UInt8)) (ns:List (MsD × List EnD)),l=ns.map encN→sendK l xs=(sendN ns (xs.map keyO)).map encN
 | [],_,_,h=>h
 | x::xs,l,ns,h=>by
  show sendK (stepK l x) xs=(sendN _ (xs.map keyO)).map encN
  refine sendK_N xs _ _ ?_
  subst h
  unfold stepK keyO
  simp only [List.length_map,mayF_is]
  split
  ·simp [encN]
  ·rfl
variable {w w4:World} {o o4:Ow} {g:Nat} {ns:List (MsD × List EnD)}
theorem wsend_any (hcl:Cl w o) (h:NetN w o g ns) {c capq:Nat} {q:Option Addr} {ms:List (MsD × List EnD)} (hq:OutV w o c q capq ms) (hc:32≤c) :
  Calls Tryz.prog 83 #[ptrN g,.slice q ms.length capq] w fun e w'=>∃ o' z,e=.returned (.int .i64 z)∧NetN w' o' g (sendN ns ms)∧Fm netC o o' w w':=by
 obtain ⟨p,cap,ds,hN,hm,hmay⟩:=h
 obtain ⟨xs,hk,hr,ho⟩:=hq
 have hl:ms.length=xs.length:=by rw [← hk];simp
 have sp1:Sep g p q:=⟨fun e=>by have:=hr.col g e;rw [hN.cg] at this;omega,fun i hi e=>by have:=hr.col i e;rw [hN.cp i hi] at this;omega⟩
 have sp2:∀ x ∈ xs,Sep g p x.p:=fun x hx=>⟨fun e=>by have:=((ho x hx).sl.lt g e).2;rw [hN.cg] at this;omega,fun i hi e=>by have:=((ho x hx).sl.lt i e).2;rw [hN.cp i hi] at this;omega⟩
 have hs:SlS 13 w q ms.length capq (xs.map msgL):=by rw [hl];exact hr.row.sl
 refine (nsendF_any hN.nv hs (fun x hx=>⟨(ho x hx).ok,(ho x hx).sl.sl,(ho x hx).en⟩) sp1 sp2).mono ?_
 rintro e w' ⟨p',cap',ds',rfl,nv,hd,mv,fr,qf⟩
 have F:=Fm.mv hcl mv hN.cg hN.cp
 have hnew:ds'.map mkD=(sendN ns ms).map encN:=by rw [hd,sendK_N xs _ _ hm,hk]
 have hq0:∀ d ∈ ds',∀ i,d.q.map (·.block)=some i→o i=0:=fun d hd i hi=>by
  rcases qf d hd i hi with ⟨e,he,hei⟩ | h2
  ·exact hN.cq e he i hei
  ·exact hcl i h2
 by_cases hf:∃ i,p'.map (·.block)=some i∧w.heap.size≤i
 ·obtain ⟨i,hi,hfi⟩:=hf
  have hlt:=(nv.row.lt i hi).2
  have hgl:g≠i:=fun e=>nv.pne (by rw [e];exact hi)
  refine ⟨dye o i 25,_,rfl,⟨p',cap',ds',⟨nv,(dye_other hgl).trans hN.cg,fun j hj=>?_,fun d hd j hj=>?_⟩,hnew,sendN_may ms ns hmay⟩,F.paint 25 hfi hlt⟩
  ·rw [hi] at hj
   cases hj
   exact dye_same _ _ _
  ·rw [dye_other (fun e=>nv.qp hd i hi (by rw [← e];exact hj))]
   exact hq0 d hd j hj
 ·refine ⟨o,_,rfl,⟨p',cap',ds',⟨nv,hN.cg,fun j hj=>?_,hq0⟩,hnew,sendN_may ms ns hmay⟩,F⟩
  rcases fr j hj with h1 | h1
  ·exact hN.cp j h1
  ·exact absurd ⟨j,hj,h1⟩ hf
theorem wlen_any (h:NetN w o g ns) :
  Calls Tryz.prog 39 #[ptrN g] w fun e w'=>e=.returned (.int .i64 (ns.length:Int))∧w=w':=by
 obtain ⟨p,cap,ds,hN,hm,-⟩:=h
 have hl:ns.length=ds.length:=by have:=congrArg List.length hm;simp at this;omega
 rw [hl]
 exact nlen_any hN.nv
theorem wlook_any (h:NetN w o g ns) {k:Nat} (hk:k<ns.length) :
  Calls Tryz.prog 47 #[ptrN g,.int .i64 (k:Int)] w fun e w'=>∃ p' n cap',e=.returned (.tuple #[.slice p' n cap',.bool true])∧OwP w' w.heap.size p' n cap' (encM ns[k].1 ns[k].2)∧n≤6000∧Ext w w':=by
 obtain ⟨p,cap,ds,hN,hm,-⟩:=h
 have hl:ns.length=ds.length:=by have:=congrArg List.length hm;simp at this;omega
 have hkd:k<ds.length:=by omega
 have hin:=inN_of hkd
 have hb:lookN ds (k:Int)=encM ns[k].1 ns[k].2:=by
  unfold lookN
  rw [if_pos hin]
  have e1:(ds.map mkD)[k]?=(ns.map encN)[k]?:=by rw [hm]
  rw [List.getElem?_map,List.getElem?_map,List.getElem?_eq_getElem hkd,List.getElem?_eq_getElem hk] at e1
  simp [mkD,encN] at e1
  simp [List.getElem?_eq_getElem hkd,e1.2]
 have hs:(lookN ds (k:Int)).length≤6000:=by
  unfold lookN
  rw [if_pos hin]
  have:=hN.nv.small ds[k] (by simp)
  simp [List.getElem?_eq_getElem hkd]
  omega
 refine (nlook_any hN.nv (k:Int)).mono ?_
 rintro e w' ⟨p',cap',rfl,ow,x⟩
 rw [hin]
 refine ⟨p',_,cap',rfl,?_,hs,x⟩
 rw [hb] at ow ⊢
 exact ow
theorem wto_any (h:NetN w o g ns) {k:Nat} (hk:k<ns.length) :
  Calls Tryz.prog 85 #[ptrN g,.int .i64 (k:Int)] w fun e w'=>e=.returned (.int .i64 ns[k].1.to)∧w=w':=by
 obtain ⟨p,cap,ds,hN,hm,-⟩:=h
 have hl:ns.length=ds.length:=by have:=congrArg List.length hm;simp at this;omega
 have hkd:k<ds.length:=by omega
 have hin:=inN_of hkd
 have hb:toN ds (k:Int)=ns[k].1.to:=by
  unfold toN
  rw [if_pos hin]
  have e1:(ds.map mkD)[k]?=(ns.map encN)[k]?:=by rw [hm]
  rw [List.getElem?_map,List.getElem?_map,List.getElem?_eq_getElem hkd,List.getElem?_eq_getElem hk] at e1
  simp [mkD,encN] at e1
  simp [List.getElem?_eq_getElem hkd,e1.1]
 rw [← hb]
 exact nto_any hN.nv (k:Int)
theorem wdrop_any (hcl:Cl w o) (h:NetN w o g ns) {k:Nat} (hk:k<ns.length) :
  Calls Tryz.prog 86 #[ptrN g,.int .i64 (k:Int)] w fun e w'=>e=.returned (.bool true)∧NetN w' o g (ns.eraseIdx k)∧Fm netC o o w w':=by
 obtain ⟨p,cap,ds,hN,hm,hmay⟩:=h
 have hl:ns.length=ds.length:=by have:=congrArg List.length hm;simp at this;omega
 have hkd:k<ds.length:=by omega
 have hin:=inN_of hkd
 have hd:dropN ds (k:Int)=ds.eraseIdx k:=by
  unfold dropN
  rw [if_pos hin]
  rfl
 refine (ndrop_any hN.nv (k:Int)).mono ?_
 rintro e w' ⟨rfl,nv,mv⟩
 rw [hd] at nv
 rw [hin]
 exact ⟨rfl,⟨p,cap,ds.eraseIdx k,⟨nv,hN.cg,hN.cp,fun d hd i hi=>hN.cq d (List.mem_of_mem_eraseIdx hd) i hi⟩,by rw [erase_map,erase_map,hm],fun x hx=>hmay x (List.mem_of_mem_eraseIdx hx)⟩,Fm.mv hcl mv hN.cg hN.cp⟩
theorem wnew_any (hcl:Cl w o) :
  Calls Tryz.prog 81 #[] w fun e w'=>∃ o',e=.returned (ptrN w.heap.size)∧NetN w' o' w.heap.size []∧Fm (fun _=>False) o o' w w':=by
 refine (nnew_any w).mono ?_
 rintro e w' ⟨rfl,nv,x⟩
 refine ⟨dye o w.heap.size 24,rfl,⟨none,0,[],⟨nv,dye_same _ _ _,fun i hi=>by simp at hi,fun d hd=>by cases hd⟩,rfl,fun x hx=>by cases hx⟩,(Fm.ext hcl x).paint 24 (Nat.le_refl _) nv.box.hi⟩
end
section
open Go Go.Sort Go.RowKit
inductive SlotD where
 | up (s:NdD)
 | dn (bt dv:Int)
structure WrD where
 n:Nat
 sl:List SlotD
 ns:List (MsD × List EnD)
 rl:Int
def SlotV (w:World) (o:Ow) (wb i:Nat) (n:Int):SlotD→Prop
 | .up s=>(∃ x g A,w.cell? ⟨wb,1+i * 4,none⟩=some (ptrN x)∧w.cell? ⟨wb,1+i * 4+1,none⟩=some (ptrN g)∧NodeP w o (32 * i) x wb (1+i * 4+2) A s∧ClV w o g x)∧s.id=(i:Int)∧s.n=n
 | .dn bt dv=>w.cell? ⟨wb,1+i * 4,none⟩=some (.pointer none)∧w.cell? ⟨wb,1+i * 4+1,none⟩=some (.pointer none)∧DkV w o (32 * i+13) wb (1+i * 4+2) bt dv∧(0≤bt∧bt<1000)∧0≤dv∧dv≤1000000000
theorem dcol_x {i:Nat} (h:i<8):dcol (1+i * 4)=1:=by unfold dcol;rw [if_neg (by omega)]
theorem dcol_c {i:Nat} (h:i<8):dcol (1+i * 4+1)=1:=by unfold dcol;rw [if_neg (by omega)]
theorem SlotV.fr {C:Nat→Prop} {w w':World} {o o':Ow} {wb i:Nat} {n:Int} {sd:SlotD} (h:SlotV w o wb i n sd) (hi:1≤i∧i<8) (hb:wb<w.heap.size∧o wb=1) (k:Fm C o o' w w') (h0:¬ C 0) (h1:¬ C 1) (hC:∀ d,C d→d<32 * i∨32 * i+31<d):SlotV w' o' wb i n sd:=by
 have cx:=k.cel wb (1+i * 4) hb.1 hb.2 (by rw [dcol_x hi.2];exact h1)
 have cc:=k.cel wb (1+i * 4+1) hb.1 hb.2 (by rw [dcol_c hi.2];exact h1)
 cases sd with
 | up s=>
  obtain ⟨⟨x,g,A,h1,h2,h3,h4⟩,h5⟩:=h
  exact ⟨⟨x,g,A,cx.trans h1,cc.trans h2,h3.fr (by omega) k h0 (fun d hd=>by have:=hC d hd;unfold ndI;omega),h4.fr k h0⟩,h5⟩
 | dn bt dv=>
  obtain ⟨h1,h2,h3,h4⟩:=h
  exact ⟨cx.trans h1,cc.trans h2,h3.fr k (fun e=>by have:=hC _ e;omega),h4⟩
theorem SlotV.ext {w w':World} {o:Ow} {wb i:Nat} {n:Int} {sd:SlotD} (h:SlotV w o wb i n sd) (k:Ext w w'):SlotV w' o wb i n sd:=by
 cases sd with
 | up s=>
  obtain ⟨⟨x,g,A,h1,h2,h3,h4⟩,h5⟩:=h
  exact ⟨⟨x,g,A,Ext.cell k h1,Ext.cell k h2,h3.ext k,h4.ext k⟩,h5⟩
 | dn bt dv=>
  obtain ⟨h1,h2,h3,h4⟩:=h
  exact ⟨Ext.cell k h1,Ext.cell k h2,h3.ext k,h4⟩
structure WrV (w:World) (o:Ow) (wb g:Nat) (W:WrD):Prop where
 col:o wb=1
 hi:wb<w.heap.size
 c0:w.cell? ⟨wb,0,none⟩=some (.int .i64 (W.n:Int))
 c33:w.cell? ⟨wb,33,none⟩=some (ptrN g)
 c34:w.cell? ⟨wb,34,none⟩=some (.int .i64 W.rl)
 fz:∀ j,w.frozen? ⟨wb,j,none⟩=false
 net:NetN w o g W.ns
 hn:3≤W.n∧W.n≤7
 hr:0≤W.rl∧W.rl≤1000000
 sl:∀ i,1≤i→i≤W.n→∃ sd,W.sl[i-1]?=some sd∧SlotV w o wb i (W.n:Int) sd
variable {w w4:World} {o o4:Ow} {wb g:Nat} {W W':WrD}
theorem WrV.ext (h:WrV w o wb g W) (k:Ext w w4):WrV w4 o wb g W:=
 ⟨h.col,Nat.lt_of_lt_of_le h.hi k.size,Ext.cell k h.c0,Ext.cell k h.c33,Ext.cell k h.c34,fun j=>(World.frozen?_of_block (k.block wb h.hi)).trans (h.fz j),h.net.ext k,h.hn,h.hr,fun i h1 h2=>by
  obtain ⟨sd,e,v⟩:=h.sl i h1 h2
  exact ⟨sd,e,v.ext k⟩⟩
def wrC (d:Nat):Prop:=d=1∨d=24∨d=25∨(32≤d∧d<288)
theorem wr0:¬ wrC 0:=by unfold wrC;omega
theorem nd_wr {i:Nat} (h:1≤i∧i<8):∀ d,ndC (32 * i) d→wrC d:=fun d hd=>by unfold ndC at hd;unfold wrC;omega
theorem net_wr:∀ d,netC d→wrC d:=fun d hd=>by unfold netC at hd;unfold wrC;omega
theorem WrV.fr {C:Nat→Prop} (h:WrV w o wb g W) (k:Fm C o o4 w w4) (hC:∀ d,C d→d≠0∧¬ wrC d):WrV w4 o4 wb g W:=by
 have h0:¬ C 0:=fun e=>(hC _ e).1 rfl
 have h1:¬ C 1:=fun e=>(hC _ e).2 (by unfold wrC;omega)
 have hc:∀ j,dcol j=1→w4.cell? ⟨wb,j,none⟩=w.cell? ⟨wb,j,none⟩:=fun j e=>k.cel wb j h.hi h.col (by rw [e];exact h1)
 exact ⟨(k.at h.hi (by rw [h.col];exact h1)).trans h.col,Nat.lt_of_lt_of_le h.hi k.size,(hc 0 rfl).trans h.c0,(hc 33 rfl).trans h.c33,(hc 34 rfl).trans h.c34,fun j=>(k.frz wb j h.hi h.col).trans (h.fz j),h.net.fr k h0 (fun e=>(hC _ e).2 (by unfold wrC;omega)) (fun e=>(hC _ e).2 (by unfold wrC;omega)),h.hn,h.hr,fun i a b=>by
  obtain ⟨sd,e,v⟩:=h.sl i a b
  have:=h.hn
  exact ⟨sd,e,v.fr ⟨a,by omega⟩ ⟨h.hi,h.col⟩ k h0 h1 (fun d hd=>by have:=(hC d hd).2;unfold wrC at this;omega)⟩⟩
theorem WrV.goes {C:Nat→Prop} (h:WrV w o wb g W) {i:Nat} (hi:1≤i∧i≤W.n) (k:Fm C o o4 w w4) (hC:∀ d,C d→ndC (32 * i) d) {sd:SlotD} (hs:SlotV w4 o4 wb i (W.n:Int) sd):WrV w4 o4 wb g { W with sl:=W.sl.set (i-1) sd }:=by
 have hn:=h.hn
 have h0:¬ C 0:=fun e=>by have:=hC _ e;unfold ndC at this;omega
 have h1:¬ C 1:=fun e=>by have:=hC _ e;unfold ndC at this;omega
 have hc:∀ j,dcol j=1→w4.cell? ⟨wb,j,none⟩=w.cell? ⟨wb,j,none⟩:=fun j e=>k.cel wb j h.hi h.col (by rw [e];exact h1)
 refine ⟨(k.at h.hi (by rw [h.col];exact h1)).trans h.col,Nat.lt_of_lt_of_le h.hi k.size,(hc 0 rfl).trans h.c0,(hc 33 rfl).trans h.c33,(hc 34 rfl).trans h.c34,fun j=>(k.frz wb j h.hi h.col).trans (h.fz j),h.net.fr k h0 (fun e=>by have:=hC _ e;unfold ndC at this;omega) (fun e=>by have:=hC _ e;unfold ndC at this;omega),h.hn,h.hr,fun j a b=>?_⟩
 obtain ⟨sj,e,v⟩:=h.sl j a b
 by_cases hj:j=i
 ·subst hj
  have hl:j-1<W.sl.length:=(List.getElem?_eq_some_iff.1 e).1
  exact ⟨sd,by simp [hl],hs⟩
 ·refine ⟨sj,?_,v.fr ⟨a,by simp only at b;omega⟩ ⟨h.hi,h.col⟩ k h0 h1 (fun d hd=>by have:=hC d hd;unfold ndC at this;omega)⟩
  rw [← e]
  simp only [List.getElem?_set]
  rw [if_neg (by omega)]
theorem WrV.mails (h:WrV w o wb g W) (k:Fm netC o o4 w w4) {ns:List (MsD × List EnD)} (hs:NetN w4 o4 g ns):WrV w4 o4 wb g { W with ns:=ns }:=by
 have hn:=h.hn
 have h0:¬ netC 0:=by unfold netC;omega
 have h1:¬ netC 1:=by unfold netC;omega
 have hc:∀ j,dcol j=1→w4.cell? ⟨wb,j,none⟩=w.cell? ⟨wb,j,none⟩:=fun j e=>k.cel wb j h.hi h.col (by rw [e];exact h1)
 refine ⟨(k.at h.hi (by rw [h.col];exact h1)).trans h.col,Nat.lt_of_lt_of_le h.hi k.size,(hc 0 rfl).trans h.c0,(hc 33 rfl).trans h.c33,(hc 34 rfl).trans h.c34,fun j=>(k.frz wb j h.hi h.col).trans (h.fz j),hs,h.hn,h.hr,fun j a b=>?_⟩
 obtain ⟨sj,e,v⟩:=h.sl j a b
 exact ⟨sj,e,v.fr ⟨a,by simp only at b;omega⟩ ⟨h.hi,h.col⟩ k h0 h1 (fun d hd=>by unfold netC at hd;omega)⟩
theorem wis_any (h:WrV w o wb g W) (z:Int) :
  Calls Tryz.prog 49 #[ptrN wb,.int .i64 z] w fun e w'=>e=.returned (.bool (decide (1≤z)&&decide (z≤(W.n:Int))))∧w=w':=by
 have c0:=h.c0
 clear h
 go_enter Tryz.func49,Tryz.ntmps49
 by_cases h1:1≤z
 ·have e1:decide (1≤z)=true:=decide_eq_true h1
  clear h1
  go_wp2
  go_ret
  simp [e1]
 ·have e1:decide (1≤z)=false:=decide_eq_false h1
  clear h1
  go_wp2
  go_ret
  simp [e1]
theorem WrV.up (h:WrV w o wb g W) {i:Nat} {s:NdD} (hi:1≤i∧i≤W.n) (hs:W.sl[i-1]?=some (.up s)):∃ x c A,w.cell? ⟨wb,1+i * 4,none⟩=some (ptrN x)∧w.cell? ⟨wb,1+i * 4+1,none⟩=some (ptrN c)∧NodeP w o (32 * i) x wb (1+i * 4+2) A s∧ClV w o c x∧s.id=(i:Int)∧s.n=(W.n:Int):=by
 obtain ⟨sd,e,v⟩:=h.sl i hi.1 hi.2
 rw [hs] at e
 cases e
 obtain ⟨⟨x,c,A,h1,h2,h3,h4⟩,h5,h6⟩:=v
 exact ⟨x,c,A,h1,h2,h3,h4,h5,h6⟩
theorem WrV.dn (h:WrV w o wb g W) {i:Nat} {bt dv:Int} (hi:1≤i∧i≤W.n) (hs:W.sl[i-1]?=some (.dn bt dv)):w.cell? ⟨wb,1+i * 4,none⟩=some (.pointer none)∧w.cell? ⟨wb,1+i * 4+1,none⟩=some (.pointer none)∧DkV w o (32 * i+13) wb (1+i * 4+2) bt dv∧(0≤bt∧bt<1000)∧0≤dv∧dv≤1000000000:=by
 obtain ⟨sd,e,v⟩:=h.sl i hi.1 hi.2
 rw [hs] at e
 cases e
 exact v
theorem is_yes {i n:Nat} (h:1≤i∧i≤n):(decide (1≤(i:Int))&&decide ((i:Int)≤(n:Int)))=true:=by
 rw [Bool.and_eq_true,decide_eq_true_eq,decide_eq_true_eq]
 omega
theorem wnode_cell (h:WrV w o wb g W) {i:Nat} (hi:1≤i∧i≤W.n) {v:Value} (hv:w.cell? ⟨wb,1+i * 4,none⟩=some v) :
  Calls Tryz.prog 20 #[ptrN wb,.int .i64 (i:Int)] w fun e w'=>e=.returned v∧w=w':=by
 have IS:=hI (wis_any h (i:Int))
 rw [is_yes hi] at IS
 have f1:(0:Int)≤(i:Int):=by omega
 have f2:(i:Int)<8:=by have:=h.hn;omega
 clear h hi
 go_enter Tryz.func20,Tryz.ntmps20
 go_wp2_with fail
 refine IS.o.mono ?_
 rintro e w2 ⟨rfl,rfl⟩
 go_wp2
 go_ret
 trivial
theorem wnode_up (h:WrV w o wb g W) {i:Nat} {s:NdD} (hi:1≤i∧i≤W.n) (hs:W.sl[i-1]?=some (.up s)) :
  Calls Tryz.prog 20 #[ptrN wb,.int .i64 (i:Int)] w fun e w'=>∃ x c A,e=.returned (ptrN x)∧w.cell? ⟨wb,1+i * 4,none⟩=some (ptrN x)∧w.cell? ⟨wb,1+i * 4+1,none⟩=some (ptrN c)∧NodeP w o (32 * i) x wb (1+i * 4+2) A s∧ClV w o c x∧s.id=(i:Int)∧s.n=(W.n:Int)∧w=w':=by
 obtain ⟨x,c,A,h1,h2⟩:=h.up hi hs
 refine (wnode_cell h hi h1).mono ?_
 rintro e w' ⟨rfl,rfl⟩
 exact ⟨x,c,A,rfl,h1,h2.1,h2.2.1,h2.2.2.1,h2.2.2.2.1,h2.2.2.2.2,rfl⟩
theorem wnode_dn (h:WrV w o wb g W) {i:Nat} {bt dv:Int} (hi:1≤i∧i≤W.n) (hs:W.sl[i-1]?=some (.dn bt dv)) :
  Calls Tryz.prog 20 #[ptrN wb,.int .i64 (i:Int)] w fun e w'=>e=.returned (.pointer none)∧w=w':=
 wnode_cell h hi (h.dn hi hs).1
theorem wnode_no (h:WrV w o wb g W) {z:Int} (hz:(decide (1≤z)&&decide (z≤(W.n:Int)))=false) :
  Calls Tryz.prog 20 #[ptrN wb,.int .i64 z] w fun e w'=>e=.returned (.pointer none)∧w=w':=by
 have IS:=hI (wis_any h z)
 rw [hz] at IS
 clear h hz
 go_enter Tryz.func20,Tryz.ntmps20
 go_wp2_with fail
 refine IS.o.mono ?_
 rintro e w2 ⟨rfl,rfl⟩
 go_wp2
 go_ret
 trivial
theorem wclient_any (h:WrV w o wb g W) {i:Nat} (hi:1≤i∧i≤W.n) {v:Value} (hv:w.cell? ⟨wb,1+i * 4+1,none⟩=some v) :
  Calls Tryz.prog 79 #[ptrN wb,.int .i64 (i:Int)] w fun e w'=>e=.returned v∧w=w':=by
 have IS:=hI (wis_any h (i:Int))
 rw [is_yes hi] at IS
 have f1:(0:Int)≤(i:Int):=by omega
 have f2:(i:Int)<8:=by have:=h.hn;omega
 clear h hi
 go_enter Tryz.func79,Tryz.ntmps79
 go_wp2_with fail
 refine IS.o.mono ?_
 rintro e w2 ⟨rfl,rfl⟩
 go_wp2
 go_ret
 trivial
theorem wdisk_any (h:WrV w o wb g W) {i:Nat} (hi:1≤i∧i≤W.n) :
  Calls Tryz.prog 57 #[ptrN wb,.int .i64 (i:Int)] w fun e w'=>e=.returned (.pointer (some ⟨wb,1+i * 4+2,none⟩))∧w=w':=by
 have IS:=hI (wis_any h (i:Int))
 rw [is_yes hi] at IS
 have f1:(0:Int)≤(i:Int):=by omega
 have f2:(i:Int)<8:=by have:=h.hn;omega
 clear h hi
 go_enter Tryz.func57,Tryz.ntmps57
 go_wp2_with fail
 refine IS.o.mono ?_
 rintro e w2 ⟨rfl,rfl⟩
 go_wp2
 go_ret
 trivial
theorem wnet_any (h:WrV w o wb g W) :
  Calls Tryz.prog 38 #[ptrN wb] w fun e w'=>e=.returned (ptrN g)∧w=w':=by
 have c33:=h.c33
 clear h
 go_enter Tryz.func38,Tryz.ntmps38
 go_wp2
 go_ret
 trivial
theorem wreal_any (h:WrV w o wb g W) :
  Calls Tryz.prog 67 #[ptrN wb] w fun e w'=>e=.returned (.int .i64 W.rl)∧w=w':=by
 have c34:=h.c34
 clear h
 go_enter Tryz.func67,Tryz.ntmps67
 go_wp2
 go_ret
 trivial
end
section
open Go Go.Sort Go.RowKit
abbrev stL (fn a n od lv:Int) (da:ByteArray):List Value:=[.int .i64 fn,.int .i64 a,.int .i64 n,.int .i64 od,.int .i64 lv,.string da]
abbrev stA (fn a n od lv:Int) (da:ByteArray):Array Value:=#[.int .i64 fn,.int .i64 a,.int .i64 n,.int .i64 od,.int .i64 lv,.string da]
abbrev stV (fn a n od lv:Int) (da:ByteArray):Value:=.agg #[.int .i64 fn,.int .i64 a,.int .i64 n,.int .i64 od,.int .i64 lv,.string da]
def hearM (s:NdD) (x:MsD × List EnD):(MsD × List EnD) ⊕ Int:=
 if x.1.to=s.id then (if x.1.bt<s.bs.at x.1.fr.toNat then .inr 7 else .inl x) else .inr 1
theorem hearR_enc {s:NdD} {x:MsD × List EnD} (h:mayM x.1 x.2=true):hearR s.id s.bs.at (encM x.1 x.2)=hearM s x:=by
 unfold hearR hearM
 obtain ⟨h1,h2⟩:=mayM_ok h
 rw [decM_enc h1 h2 h]
def setW (W:WrD) (i:Nat) (s s':NdD) (ms:List (MsD × List EnD)):Option WrD:=
 if decide (s'.id=s.id∧s'.n=s.n) then some { W with sl:=W.sl.set (i-1) (.up s'),ns:=sendN W.ns ms } else none
def mailW (drop:Bool) (k:Nat) (W:WrD):Option WrD:=
 match W.ns[k]? with
 | none=>none
 | some x=>
  if drop then some { W with ns:=W.ns.eraseIdx k }
  else if decide (1≤x.1.to∧x.1.to≤(W.n:Int)) then
   match W.sl[x.1.to.toNat-1]? with
   | some (.up s)=>
    match hearO s (hearM s x) with
    | none=>none
    | some r=>setW { W with ns:=W.ns.eraseIdx k } x.1.to.toNat s r.2 r.1
   | some (.dn _ _)=>some { W with ns:=W.ns.eraseIdx k }
   | none=>none
  else none
def tickW (i:Nat) (W:WrD):Option WrD:=
 match W.sl[i-1]? with
 | some (.up s)=>
  match tickO s with
  | none=>none
  | some r=>setW W i s r.2 r.1
 | _=>none
def castW (i:Nat) (od lv:Int) (da:ByteArray) (W:WrD):Option WrD:=
 match W.sl[i-1]? with
 | some (.up s)=>
  match castO s od lv da with
  | none=>none
  | some s'=>if decide (s'.id=s.id∧s'.n=s.n) then some { W with sl:=W.sl.set (i-1) (.up s') } else none
 | _=>none
variable {w w4:World} {o o4:Ow} {wb g:Nat} {W W':WrD}
theorem SlotV.go {i x c:Nat} {A:AdD} {s s':NdD} {n:Int} (hi:1≤i∧i<8) (hb:wb<w.heap.size∧o wb=1) (h1:w.cell? ⟨wb,1+i * 4,none⟩=some (ptrN x)) (h2:w.cell? ⟨wb,1+i * 4+1,none⟩=some (ptrN c)) (hc:ClV w o c x) (hid:s.id=(i:Int)) (hn:s.n=n)
  (F:Fm (ndC (32 * i)) o o4 w w4) (N:NodeP w4 o4 (32 * i) x wb (1+i * 4+2) A s') (e:s'.id=s.id∧s'.n=s.n):SlotV w4 o4 wb i n (.up s'):=by
 have n1:¬ ndC (32 * i) 1:=by unfold ndC;omega
 have n0:¬ ndC (32 * i) 0:=by unfold ndC;omega
 exact ⟨⟨x,c,A,(F.cel wb (1+i * 4) hb.1 hb.2 (by rw [dcol_x hi.2];exact n1)).trans h1,(F.cel wb (1+i * 4+1) hb.1 hb.2 (by rw [dcol_c hi.2];exact n1)).trans h2,N,hc.fr F n0⟩,by rw [e.1];exact hid,by rw [e.2];exact hn⟩
theorem WrV.said {i x c:Nat} {A:AdD} {s s':NdD} (H:WrV w o wb g W) (hi:1≤i∧i≤W.n) (h1:w.cell? ⟨wb,1+i * 4,none⟩=some (ptrN x)) (h2:w.cell? ⟨wb,1+i * 4+1,none⟩=some (ptrN c)) (hc:ClV w o c x) (hid:s.id=(i:Int)) (hn:s.n=(W.n:Int))
  (F:Fm (ndC (32 * i)) o o4 w w4) (N:NodeP w4 o4 (32 * i) x wb (1+i * 4+2) A s') (e:s'.id=s.id∧s'.n=s.n):WrV w4 o4 wb g { W with sl:=W.sl.set (i-1) (.up s') }:=
 H.goes hi F (fun d hd=>hd) (SlotV.go ⟨hi.1,by have:=H.hn;omega⟩ ⟨H.hi,H.col⟩ h1 h2 hc hid hn F N e)
theorem wlook2 {ns:List (MsD × List EnD)} {k:Nat} {x:MsD × List EnD} (h:NetN w o g ns) (hx:ns[k]?=some x) :
  Calls Tryz.prog 47 #[ptrN g,.int .i64 (k:Int)] w fun e w'=>∃ p' n cap',e=.returned (.tuple #[.slice p' n cap',.bool true])∧OwP w' w.heap.size p' n cap' (encM x.1 x.2)∧n≤6000∧Ext w w':=by
 obtain ⟨hk,rfl⟩:=List.getElem?_eq_some_iff.1 hx
 exact wlook_any h hk
theorem wto2 {ns:List (MsD × List EnD)} {k:Nat} {x:MsD × List EnD} (h:NetN w o g ns) (hx:ns[k]?=some x) :
  Calls Tryz.prog 85 #[ptrN g,.int .i64 (k:Int)] w fun e w'=>e=.returned (.int .i64 x.1.to)∧w=w':=by
 obtain ⟨hk,rfl⟩:=List.getElem?_eq_some_iff.1 hx
 exact wto_any h hk
theorem wdrop2 {ns:List (MsD × List EnD)} {k:Nat} {x:MsD × List EnD} (hcl:Cl w o) (h:NetN w o g ns) (hx:ns[k]?=some x) :
  Calls Tryz.prog 86 #[ptrN g,.int .i64 (k:Int)] w fun e w'=>e=.returned (.bool true)∧NetN w' o g (ns.eraseIdx k)∧Fm netC o o w w':=
 wdrop_any hcl h (List.getElem?_eq_some_iff.1 hx).1
theorem nHear_nil {w:World} (v:Value) :
  Calls Tryz.prog 87 #[.pointer none,v] w fun e w'=>e=.returned (.slice none 0 0)∧w=w':=by
 go_enter Tryz.func87,Tryz.ntmps87
 go_wp2
 go_ret
 trivial
theorem wmail_any (hcl:Cl w o) (h:WrV w o wb g W) {a od lv:Int} {da:ByteArray} {k:Nat} (hs:mailW false k W=some W') :
  Calls Tryz.prog 65 #[ptrN wb,stV 3 a (k:Int) od lv da] w fun e w'=>e=.returned (.int .i64 0)∧∃ o',WrV w' o' wb g W'∧Fm wrC o o' w w':=by
 unfold mailW at hs
 cases hx:W.ns[k]? with
 | none=>rw [hx] at hs;cases hs
 | some x=>
 rw [hx] at hs
 simp only at hs
 have HXK:=hI hx
 have HS:=hI hs
 have H:=hI h
 have HC:=hI hcl
 have f5:((3:Int) != 5)=true:=rfl
 have f4:((3:Int) != 4)=true:=rfl
 have HNET:=hI h.net
 clear hcl h hs hx
 go_enter Tryz.func65,Tryz.ntmps65
 go_upto_region 1 with fail
 change Code.wp _ _ _ _ (w.alloc (.cells (stA 3 a (k:Int) od lv da) 28))
 have A0:=hI (Ext.alloc w (.cells (stA 3 a (k:Int) od lv da) 28))
 have SB:=hI (BoxC.loose HC.o (stA 3 a (k:Int) od lv da) (stL 3 a (k:Int) od lv da) 28 rfl)
 replace H:=hI (H.o.ext A0.o)
 have M1:=hI (Fm.ext (C:=wrC) HC.o A0.o)
 clear A0 HC
 generalize w.alloc (.cells (stA 3 a (k:Int) od lv da) 28)=w1 at *
 generalize w.heap.size=sb at *
 obtain ⟨W2,hW⟩:∃ W2,W2=w1.drew:=⟨_,rfl⟩
 have X2:Hid (Ext w1 W2):=hI (by rw [hW];exact Ext.drew w1)
 replace H:=hI (H.o.ext X2.o)
 replace SB:=hI (SB.o.ext X2.o)
 have g33:=fun d os=>Ext.cell (Ext.reg W2 d os) H.o.c33
 have gs2:=fun d os=>Ext.cell (Ext.reg W2 d os) (SB.o.box.c 2 _ rfl)
 refine att [0,1,2,3,4,5,6,7,8,9,10,11] [] ?_
 rw [← hW]
 clear hW
 repeat ((first|refine aqq fun K hK=>?_|refine akk fun K hK=>?_);go_big_quiet_op;refine hK _ ?_;clear hK K)
 refine acc fun K hK=>?_
 go_simp
 refine (wlook2 H.o.net HXK.o).mono ?_
 rintro e w3 ⟨pb,nb,cb,rfl,ob,hnb,x3⟩
 have B3:=hI ob
 have HNB:=hI hnb
 have HB0:Hid (∀ i,pb.map (·.block)=some i→o i=0):=hI (fun i hi=>(M1.o.cl.ext X2.o) i ((ob.lt i hi).1))
 have H3:=hI (H.o.ext x3)
 have SB3:=hI (SB.o.ext x3)
 have M3:=hI (M1.o.tr (Fm.ext M1.o.cl (X2.o.tr x3)) wr0)
 refine hK _ _ x3 ?_
 clear hK K x3 ob hnb H SB M1 X2 g33 gs2
 repeat ((first|refine aqq fun K hK=>?_|refine akk fun K hK=>?_);go_big_quiet_op;refine hK _ ?_;clear hK K)
 refine ra_nil ?_
 refine rt_nil ?_
 go_upto_region 4 with fail
 obtain ⟨W4,hW⟩:∃ W4,W4=w3.drew:=⟨_,rfl⟩
 have X4:Hid (Ext w3 W4):=hI (by rw [hW];exact Ext.drew w3)
 replace H3:=hI (H3.o.ext X4.o)
 replace SB3:=hI (SB3.o.ext X4.o)
 replace B3:=hI (B3.o.ext X4.o)
 have g33:=fun d os=>Ext.cell (Ext.reg W4 d os) H3.o.c33
 have gs2:=fun d os=>Ext.cell (Ext.reg W4 d os) (SB3.o.box.c 2 _ rfl)
 refine att [0,1,2,3,4,5,6,7] [] ?_
 rw [← hW]
 clear hW
 repeat ((first|refine aqq fun K hK=>?_|refine akk fun K hK=>?_);go_big_quiet_op;refine hK _ ?_;clear hK K)
 refine acc fun K hK=>?_
 go_simp
 refine (wto2 H3.o.net HXK.o).mono ?_
 rintro e w5 ⟨rfl,rfl⟩
 refine hK _ _ (Ext.rfl' _) ?_;clear hK K
 repeat ((first|refine aqq fun K hK=>?_|refine akk fun K hK=>?_);go_big_quiet_op;refine hK _ ?_;clear hK K)
 refine ra_nil ?_
 refine rt_nil ?_
 have M4:=hI (M3.o.tr (Fm.ext M3.o.cl X4.o) wr0)
 clear X4 M3 g33 gs2
 have d0:=SB3.o.box.c 0 _ rfl
 go_upto_region 6 with fail
 clear d0
 obtain ⟨W6,hW⟩:∃ W6,W6=W4.drew:=⟨_,rfl⟩
 have X6:Hid (Ext W4 W6):=hI (by rw [hW];exact Ext.drew W4)
 replace H3:=hI (H3.o.ext X6.o)
 replace SB3:=hI (SB3.o.ext X6.o)
 replace B3:=hI (B3.o.ext X6.o)
 have g33:=fun d os=>Ext.cell (Ext.reg W6 d os) H3.o.c33
 have gs2:=fun d os=>Ext.cell (Ext.reg W6 d os) (SB3.o.box.c 2 _ rfl)
 refine att [0,1,2,3,4,5] [6] ?_
 rw [← hW]
 clear hW
 repeat ((first|refine aqq fun K hK=>?_|refine akk fun K hK=>?_);go_big_quiet_op;refine hK _ ?_;clear hK K)
 refine ra_nil ?_
 refine too fun K hK=>?_
 go_simp
 refine (wdrop2 (M4.o.cl.ext X6.o) H3.o.net HXK.o).mono ?_
 rintro e w7 ⟨rfl,n7,m7⟩
 have H7:=hI (H3.o.mails m7 n7)
 have SB7:=hI (SB3.o.fr m7 (by decide) (by unfold netC;omega))
 have B7:=hI (OwP.fr B3.o m7 (fun i hi=>by rw [HB0.o i hi];unfold netC;omega))
 have M7:=hI ((M4.o.tr (Fm.ext M4.o.cl X6.o) wr0).tr (m7.mono net_wr) wr0)
 refine hK _ _ ?_
 clear hK K n7 m7 H3 SB3 B3 M4 X6 g33 gs2
 refine rt_nil ?_
 have d0:=SB7.o.box.c 0 _ rfl
 clear d0
 have d0:=SB7.o.box.c 0 _ rfl
 go_upto_region 8 with fail
 clear d0
 have HS1:=HS.o
 simp only [Bool.false_eq_true,if_false] at HS1
 split at HS1
 case isFalse=>cases HS1
 rename_i hto
 have HTO:=hI (of_decide_eq_true hto)
 obtain ⟨i,hi⟩:∃ i:Nat,x.1.to=(i:Int):=⟨x.1.to.toNat,by have:=HTO.o.1;omega⟩
 have HI:=hI hi
 have HI2:Hid (1≤i∧i≤W.n):=hI (by have:=HTO.o;rw [hi] at this;omega)
 rw [hi,Int.toNat_natCast] at HS1
 replace HS:=hI HS1
 clear HS1 hto hi HTO
 rw [HI.o]
 cases hsl:W.sl[i-1]? with
 | none=>
  have:=HS.o
  rw [hsl] at this
  cases this
 | some sd=>
 cases sd with
 | dn bt dv=>
  have HW:Hid ({ W with ns:=W.ns.eraseIdx k }=W'):=hI (by
   have:=HS.o
   rw [hsl] at this
   exact Option.some.inj this)
  have HSL:Hid (({ W with ns:=W.ns.eraseIdx k }:WrD).sl[i-1]?=some (.dn bt dv)):=hI hsl
  clear HS hsl
  obtain ⟨W8,hW⟩:∃ W8,W8=w7.drew:=⟨_,rfl⟩
  have X8:Hid (Ext w7 W8):=hI (by rw [hW];exact Ext.drew w7)
  replace H7:=hI (H7.o.ext X8.o)
  replace B7:=hI (B7.o.ext X8.o)
  have r33:=fun (qq:Wrap (CL [(⟨wb,33,none⟩,ptrN g)]))=>(qq.h.1:qq.w.cell? ⟨wb,33,none⟩=some (ptrN g))
  refine gtt [0,1,2,3,4,5,7,6,8,9] (CL [(⟨wb,33,none⟩,ptrN g)]) (by rw [← hW];exact ⟨H7.o.c33,trivial⟩) (fun _=>?_)
  rw [← hW]
  clear hW
  repeat ((first|refine gqq fun K hK=>?_|refine gkk fun K hK=>?_);go_big_quiet_op;refine hK _ ?_;clear hK K)
  have M8:=hI (M7.o.tr (Fm.ext M7.o.cl X8.o) wr0)
  clear X8 M7
  refine gcc fun K hK=>?_
  go_simp
  refine (wnode_dn H7.o HI2.o HSL.o).mono ?_
  rintro e w9 ⟨rfl,rfl⟩
  refine hK (CL [(⟨wb,33,none⟩,ptrN g)]) _ _ (fun _ h=>h) ⟨H7.o.c33,trivial⟩ (fun _=>?_)
  clear hK K
  repeat ((first|refine gqq fun K hK=>?_|refine gkk fun K hK=>?_);go_big_quiet_op;refine hK _ ?_;clear hK K)
  refine gcc fun K hK=>?_
  go_simp
  refine (nHear_nil _).mono ?_
  rintro e w9 ⟨rfl,rfl⟩
  refine hK (CL [(⟨wb,33,none⟩,ptrN g)]) _ _ (fun _ h=>h) ⟨H7.o.c33,trivial⟩ (fun _=>?_)
  clear hK K
  repeat ((first|refine gqq fun K hK=>?_|refine gkk fun K hK=>?_);go_big_quiet_op;refine hK _ ?_;clear hK K)
  refine gcc fun K hK=>?_
  go_simp
  refine (wsend_any M8.o.cl H7.o.net (OutV.none W8 o 48) (by omega)).mono ?_
  rintro e w11 ⟨o11,z11,rfl,n11,m11⟩
  have H11:=hI (H7.o.mails m11 n11)
  have M11:=hI (M8.o.tr (m11.mono net_wr) wr0)
  clear n11 m11
  refine hK (fun W=>W=w11) _ _ (fun W h=>by rw [h];exact ⟨H11.o.c33,trivial⟩) rfl (fun _=>?_)
  clear hK K
  refine rg_nil ?_
  have e11:sendN ({ W with ns:=W.ns.eraseIdx k }:WrD).ns []=W.ns.eraseIdx k:=rfl
  rw [e11] at H11
  rw [show ({ ({ W with ns:=W.ns.eraseIdx k }:WrD) with ns:=W.ns.eraseIdx k }:WrD)=W' from HW.o] at H11
  go_wp2
  go_ret
  exact ⟨rfl,o11,H11.o,M11.o⟩
 | up s=>
  have HS1:=HS.o
  rw [hsl] at HS1
  simp only at HS1
  cases hr:hearO s (hearM s x) with
  | none=>rw [hr] at HS1;cases HS1
  | some r=>
  rw [hr] at HS1
  simp only at HS1
  obtain ⟨ms,s'⟩:=r
  unfold setW at HS1
  split at HS1
  case isFalse=>cases HS1
  rename_i hid
  have HID:=hI (of_decide_eq_true hid)
  have HR:=hI hr
  have HW:=hI (Option.some.inj HS1)
  have HSL:Hid (({ W with ns:=W.ns.eraseIdx k }:WrD).sl[i-1]?=some (.up s)):=hI hsl
  have HMAY:Hid (mayM x.1 x.2=true):=hI (by
   obtain ⟨_,_,_,_,_,hm⟩:=HNET.o
   exact hm x (List.mem_of_getElem? HXK.o))
  clear HS HS1 hsl hid hr
  obtain ⟨W8,hW⟩:∃ W8,W8=w7.drew:=⟨_,rfl⟩
  have X8:Hid (Ext w7 W8):=hI (by rw [hW];exact Ext.drew w7)
  replace H7:=hI (H7.o.ext X8.o)
  replace B7:=hI (B7.o.ext X8.o)
  have r33:=fun (qq:Wrap (CL [(⟨wb,33,none⟩,ptrN g)]))=>(qq.h.1:qq.w.cell? ⟨wb,33,none⟩=some (ptrN g))
  refine gtt [0,1,2,3,4,5,7,6,8,9] (CL [(⟨wb,33,none⟩,ptrN g)]) (by rw [← hW];exact ⟨H7.o.c33,trivial⟩) (fun _=>?_)
  rw [← hW]
  clear hW
  repeat ((first|refine gqq fun K hK=>?_|refine gkk fun K hK=>?_);go_big_quiet_op;refine hK _ ?_;clear hK K)
  have M8:=hI (M7.o.tr (Fm.ext M7.o.cl X8.o) wr0)
  clear X8 M7
  refine gcc fun K hK=>?_
  go_simp
  refine (wnode_up H7.o HI2.o HSL.o).mono ?_
  rintro e w9 ⟨xx,cc,A,rfl,h1,h2,nd,cl,hid,hn,rfl⟩
  have Q1:=hI h1
  have Q2:=hI h2
  have ND:=hI nd
  have CLI:=hI cl
  have QI:=hI (And.intro hid hn)
  clear h1 h2 nd cl hid hn
  refine hK (CL [(⟨wb,33,none⟩,ptrN g)]) _ _ (fun _ h=>h) ⟨H7.o.c33,trivial⟩ (fun _=>?_)
  clear hK K
  repeat ((first|refine gqq fun K hK=>?_|refine gkk fun K hK=>?_);go_big_quiet_op;refine hK _ ?_;clear hK K)
  refine gcc fun K hK=>?_
  go_simp
  refine (nHear_any M8.o.cl (by have:=HI2.o;omega) ND.o B7.o.sl HNB.o (hearR_enc HMAY.o) HR.o).mono ?_
  rintro e w10 ⟨o10,A10,p10,c10,rfl,ou10,nd10,f10⟩
  have H10:=hI (H7.o.said HI2.o Q1.o Q2.o CLI.o QI.o.1 QI.o.2 f10 nd10 HID.o)
  have OU10:=hI ou10
  have M10:=hI (M8.o.tr (f10.mono (nd_wr ⟨HI2.o.1,by have h1:3≤W.n∧W.n≤7:=H7.o.hn;have h2:=HI2.o.2;omega⟩)) wr0)
  clear ou10 nd10 f10 Q1 Q2 ND CLI H7 M8
  refine hK (CL [(⟨wb,33,none⟩,ptrN g)]) _ _ (fun _ h=>h) ⟨H10.o.c33,trivial⟩ (fun _=>?_)
  clear hK K
  repeat ((first|refine gqq fun K hK=>?_|refine gkk fun K hK=>?_);go_big_quiet_op;refine hK _ ?_;clear hK K)
  refine gcc fun K hK=>?_
  go_simp
  refine (wsend_any M10.o.cl H10.o.net OU10.o (by have:=HI2.o;omega)).mono ?_
  rintro e w11 ⟨o11,z11,rfl,n11,m11⟩
  have H11:=hI (H10.o.mails m11 n11)
  have M11:=hI (M10.o.tr (m11.mono net_wr) wr0)
  clear n11 m11
  refine hK (fun W=>W=w11) _ _ (fun W h=>by rw [h];exact ⟨H11.o.c33,trivial⟩) rfl (fun _=>?_)
  clear hK K
  refine rg_nil ?_
  rw [show ({ ({ ({ W with ns:=W.ns.eraseIdx k }:WrD) with sl:=W.sl.set (i-1) (.up s') }:WrD) with ns:=sendN (W.ns.eraseIdx k) ms }:WrD)=W' from HW.o] at H11
  go_wp2
  go_ret
  exact ⟨rfl,o11,H11.o,M11.o⟩
theorem wmailD_any (hcl:Cl w o) (h:WrV w o wb g W) {a od lv:Int} {da:ByteArray} {k:Nat} (hs:mailW true k W=some W') :
  Calls Tryz.prog 65 #[ptrN wb,stV 4 a (k:Int) od lv da] w fun e w'=>e=.returned (.int .i64 0)∧∃ o',WrV w' o' wb g W'∧Fm wrC o o' w w':=by
 unfold mailW at hs
 cases hx:W.ns[k]? with
 | none=>rw [hx] at hs;cases hs
 | some x=>
 rw [hx] at hs
 simp only at hs
 have HXK:=hI hx
 have HS:=hI hs
 have H:=hI h
 have HC:=hI hcl
 have f5:((4:Int) != 5)=true:=rfl
 have f4:((4:Int) != 4)=false:=rfl
 clear hcl h hs hx
 go_enter Tryz.func65,Tryz.ntmps65
 go_upto_region 1 with fail
 change Code.wp _ _ _ _ (w.alloc (.cells (stA 4 a (k:Int) od lv da) 28))
 have A0:=hI (Ext.alloc w (.cells (stA 4 a (k:Int) od lv da) 28))
 have SB:=hI (BoxC.loose HC.o (stA 4 a (k:Int) od lv da) (stL 4 a (k:Int) od lv da) 28 rfl)
 replace H:=hI (H.o.ext A0.o)
 have M1:=hI (Fm.ext (C:=wrC) HC.o A0.o)
 clear A0 HC
 generalize w.alloc (.cells (stA 4 a (k:Int) od lv da) 28)=w1 at *
 generalize w.heap.size=sb at *
 obtain ⟨W2,hW⟩:∃ W2,W2=w1.drew:=⟨_,rfl⟩
 have X2:Hid (Ext w1 W2):=hI (by rw [hW];exact Ext.drew w1)
 replace H:=hI (H.o.ext X2.o)
 replace SB:=hI (SB.o.ext X2.o)
 have g33:=fun d os=>Ext.cell (Ext.reg W2 d os) H.o.c33
 have gs2:=fun d os=>Ext.cell (Ext.reg W2 d os) (SB.o.box.c 2 _ rfl)
 refine att [0,1,2,3,4,5,6,7,8,9,10,11] [] ?_
 rw [← hW]
 clear hW
 repeat ((first|refine aqq fun K hK=>?_|refine akk fun K hK=>?_);go_big_quiet_op;refine hK _ ?_;clear hK K)
 refine acc fun K hK=>?_
 go_simp
 refine (wlook2 H.o.net HXK.o).mono ?_
 rintro e w3 ⟨pb,nb,cb,rfl,ob,hnb,x3⟩
 have B3:=hI ob
 have HNB:=hI hnb
 have HB0:Hid (∀ i,pb.map (·.block)=some i→o i=0):=hI (fun i hi=>(M1.o.cl.ext X2.o) i ((ob.lt i hi).1))
 have H3:=hI (H.o.ext x3)
 have SB3:=hI (SB.o.ext x3)
 have M3:=hI (M1.o.tr (Fm.ext M1.o.cl (X2.o.tr x3)) wr0)
 refine hK _ _ x3 ?_
 clear hK K x3 ob hnb H SB M1 X2 g33 gs2
 repeat ((first|refine aqq fun K hK=>?_|refine akk fun K hK=>?_);go_big_quiet_op;refine hK _ ?_;clear hK K)
 refine ra_nil ?_
 refine rt_nil ?_
 go_upto_region 4 with fail
 obtain ⟨W4,hW⟩:∃ W4,W4=w3.drew:=⟨_,rfl⟩
 have X4:Hid (Ext w3 W4):=hI (by rw [hW];exact Ext.drew w3)
 replace H3:=hI (H3.o.ext X4.o)
 replace SB3:=hI (SB3.o.ext X4.o)
 replace B3:=hI (B3.o.ext X4.o)
 have g33:=fun d os=>Ext.cell (Ext.reg W4 d os) H3.o.c33
 have gs2:=fun d os=>Ext.cell (Ext.reg W4 d os) (SB3.o.box.c 2 _ rfl)
 refine att [0,1,2,3,4,5,6,7] [] ?_
 rw [← hW]
 clear hW
 repeat ((first|refine aqq fun K hK=>?_|refine akk fun K hK=>?_);go_big_quiet_op;refine hK _ ?_;clear hK K)
 refine acc fun K hK=>?_
 go_simp
 refine (wto2 H3.o.net HXK.o).mono ?_
 rintro e w5 ⟨rfl,rfl⟩
 refine hK _ _ (Ext.rfl' _) ?_;clear hK K
 repeat ((first|refine aqq fun K hK=>?_|refine akk fun K hK=>?_);go_big_quiet_op;refine hK _ ?_;clear hK K)
 refine ra_nil ?_
 refine rt_nil ?_
 have M4:=hI (M3.o.tr (Fm.ext M3.o.cl X4.o) wr0)
 clear X4 M3 g33 gs2
 have d0:=SB3.o.box.c 0 _ rfl
 go_upto_region 6 with fail
 clear d0
 obtain ⟨W6,hW⟩:∃ W6,W6=W4.drew:=⟨_,rfl⟩
 have X6:Hid (Ext W4 W6):=hI (by rw [hW];exact Ext.drew W4)
 replace H3:=hI (H3.o.ext X6.o)
 replace SB3:=hI (SB3.o.ext X6.o)
 replace B3:=hI (B3.o.ext X6.o)
 have g33:=fun d os=>Ext.cell (Ext.reg W6 d os) H3.o.c33
 have gs2:=fun d os=>Ext.cell (Ext.reg W6 d os) (SB3.o.box.c 2 _ rfl)
 refine att [0,1,2,3,4,5] [6] ?_
 rw [← hW]
 clear hW
 repeat ((first|refine aqq fun K hK=>?_|refine akk fun K hK=>?_);go_big_quiet_op;refine hK _ ?_;clear hK K)
 refine ra_nil ?_
 refine too fun K hK=>?_
 go_simp
 refine (wdrop2 (M4.o.cl.ext X6.o) H3.o.net HXK.o).mono ?_
 rintro e w7 ⟨rfl,n7,m7⟩
 have H7:=hI (H3.o.mails m7 n7)
 have SB7:=hI (SB3.o.fr m7 (by decide) (by unfold netC;omega))
 have B7:=hI (OwP.fr B3.o m7 (fun i hi=>by rw [HB0.o i hi];unfold netC;omega))
 have M7:=hI ((M4.o.tr (Fm.ext M4.o.cl X6.o) wr0).tr (m7.mono net_wr) wr0)
 refine hK _ _ ?_
 clear hK K n7 m7 H3 SB3 B3 M4 X6 g33 gs2
 refine rt_nil ?_
 have d0:=SB7.o.box.c 0 _ rfl
 have HW:Hid ({ W with ns:=W.ns.eraseIdx k }=W'):=hI (by
  have:=HS.o
  simp only [if_true] at this
  exact Option.some.inj this)
 rw [HW.o] at H7
 go_wp2
 go_ret
 exact ⟨rfl,o,H7.o,M7.o⟩
end
section
open Go Go.Sort Go.RowKit
variable {w w4:World} {o o4:Ow} {wb g:Nat} {W W':WrD}
theorem WrV.put2 (h:WrV w o wb g W) (hcl:Cl w o) {i:Nat} (hi:1≤i∧i≤W.n) (v u:Value) {sd:SlotD} (hs:Fm (one 1) o o w ((w.setCell ⟨wb,1+i * 4,none⟩ v).setCell ⟨wb,1+i * 4+1,none⟩ u)→SlotV ((w.setCell ⟨wb,1+i * 4,none⟩ v).setCell ⟨wb,1+i * 4+1,none⟩ u) o wb i (W.n:Int) sd) :
  WrV ((w.setCell ⟨wb,1+i * 4,none⟩ v).setCell ⟨wb,1+i * 4+1,none⟩ u) o wb g { W with sl:=W.sl.set (i-1) sd }∧Fm wrC o o w ((w.setCell ⟨wb,1+i * 4,none⟩ v).setCell ⟨wb,1+i * 4+1,none⟩ u):=by
 have hn:=h.hn
 have F1:=Fm.cell1 (C:=one 1) hcl (g:=wb) (j:=1+i * 4) v h.col (dcol_x (by omega))
 have F2:=Fm.cell1 (C:=one 1) F1.cl (g:=wb) (j:=1+i * 4+1) u h.col (dcol_c (by omega))
 have F:=F1.tr F2 (by unfold one;omega)
 have S:=hs F
 have hc:∀ j,j≠1+i * 4→j≠1+i * 4+1→((w.setCell ⟨wb,1+i * 4,none⟩ v).setCell ⟨wb,1+i * 4+1,none⟩ u).cell? ⟨wb,j,none⟩=w.cell? ⟨wb,j,none⟩:=fun j h1 h2=>by
  rw [World.cell?_setCell_other (h:=by simp <;> omega),World.cell?_setCell_other (h:=by simp <;> omega)]
 have FW:Fm wrC o o w ((w.setCell ⟨wb,1+i * 4,none⟩ v).setCell ⟨wb,1+i * 4+1,none⟩ u):=F.mono (fun d hd=>.inl hd)
 generalize (w.setCell ⟨wb,1+i * 4,none⟩ v).setCell ⟨wb,1+i * 4+1,none⟩ u=w2 at *
 have h0:¬ one 1 0:=by unfold one;omega
 refine ⟨⟨h.col,Nat.lt_of_lt_of_le h.hi F.size,(hc 0 (by omega) (by omega)).trans h.c0,(hc 33 (by omega) (by omega)).trans h.c33,(hc 34 (by omega) (by omega)).trans h.c34,fun j=>(F.frz wb j h.hi h.col).trans (h.fz j),h.net.fr F h0 (by unfold one;omega) (by unfold one;omega),h.hn,h.hr,fun j a b=>?_⟩,FW⟩
 obtain ⟨sj,e,sv⟩:=h.sl j a b
 by_cases hj:j=i
 ·subst hj
  have hl:j-1<W.sl.length:=(List.getElem?_eq_some_iff.1 e).1
  exact ⟨sd,by simp [hl],S⟩
 ·refine ⟨sj,?_,?_⟩
  ·rw [← e]
   simp only [List.getElem?_set]
   rw [if_neg (by omega)]
  ·have cx:=hc (1+j * 4) (by omega) (by omega)
   have cc:=hc (1+j * 4+1) (by omega) (by omega)
   cases sj with
   | up s=>
    obtain ⟨⟨x,c,A,h1,h2,h3,h4⟩,h5⟩:=sv
    exact ⟨⟨x,c,A,cx.trans h1,cc.trans h2,h3.fr (by omega) F h0 (fun d hd=>by unfold one at hd;unfold ndI;omega),h4.fr F h0⟩,h5⟩
   | dn bt dv=>
    obtain ⟨h1,h2,h3,h4⟩:=sv
    exact ⟨cx.trans h1,cc.trans h2,h3.fr F (by unfold one;omega),h4⟩
def startW (i:Nat) (W:WrD):Option WrD:=
 match W.sl[i-1]? with
 | some (.dn bt dv)=>if decide (bt+1<1000) then some { W with sl:=W.sl.set (i-1) (.up (newN (i:Int) (W.n:Int) (bt+1) dv)) } else none
 | _=>none
theorem wstart_any (hcl:Cl w o) (h:WrV w o wb g W) {i:Nat} (hi:1≤i∧i≤W.n) (hs:startW i W=some W') :
  Calls Tryz.prog 82 #[ptrN wb,.int .i64 (i:Int)] w fun e w'=>e=.returned (.int .i64 0)∧∃ o',WrV w' o' wb g W'∧Fm wrC o o' w w':=by
 unfold startW at hs
 split at hs
 case h_2=>cases hs
 rename_i bt dv hsl
 split at hs
 case isFalse=>cases hs
 rename_i hbt
 have HBT:=hI (of_decide_eq_true hbt)
 have HW:=hI (Option.some.inj hs)
 have D:=hI (h.dn hi hsl)
 have HSL:=hI hsl
 have HI:=hI hi
 have H:=hI h
 have HC:=hI hcl
 have f1:(0:Int)≤(i:Int):=by omega
 have f2:(i:Int)<8:=by have:=h.hn;omega
 have cx:=D.o.1
 clear hcl h hi hs hsl hbt
 go_enter Tryz.func82,Tryz.ntmps82
 go_upto_region 4 with fail
 clear cx
 obtain ⟨W2,hW⟩:∃ W2,W2=w.drew:=⟨_,rfl⟩
 have X2:Hid (Ext w W2):=hI (by rw [hW];exact Ext.drew w)
 replace H:=hI (H.o.ext X2.o)
 have r0:=fun (qq:Wrap (CL [(⟨wb,0,none⟩,.int .i64 (W.n:Int))]))=>(qq.h.1:qq.w.cell? ⟨wb,0,none⟩=some (.int .i64 (W.n:Int)))
 refine gtt [0,1,2,3,4,5,6,7,8,9,10,11,12,13] (CL [(⟨wb,0,none⟩,.int .i64 (W.n:Int))]) (by rw [← hW];exact ⟨H.o.c0,trivial⟩) (fun _=>?_)
 rw [← hW]
 clear hW
 repeat ((first|refine gqq fun K hK=>?_|refine gkk fun K hK=>?_);go_big_quiet_op;refine hK _ ?_;clear hK K)
 have M2:=hI (Fm.ext (C:=wrC) HC.o X2.o)
 have D2:Hid (W2.cell? ⟨wb,1+i * 4,none⟩=some (.pointer none)∧W2.cell? ⟨wb,1+i * 4+1,none⟩=some (.pointer none)∧DkV W2 o (32 * i+13) wb (1+i * 4+2) bt dv∧(0≤bt∧bt<1000)∧0≤dv∧dv≤1000000000):=hI (H.o.dn HI.o HSL.o)
 clear D HC X2
 refine gcc fun K hK=>?_
 go_simp
 refine (nmake_any (k:=32 * i) M2.o.cl (by have:=HI.o;omega) ⟨by have:=HI.o;omega,by have:=HI.o;omega⟩ (by have:=H.o.hn;omega) D2.o.2.2.2.1 D2.o.2.2.2.2 D2.o.2.2.1).mono ?_
 rintro e w3 ⟨o3,x,A,rfl,n3,m3⟩
 have N3:=hI n3
 have H3:=hI (H.o.goes (sd:=.dn (bt+1) dv) HI.o m3 (fun d hd=>hd) (by
  have n1:¬ ndC (32 * i) 1:=by unfold ndC;have:=HI.o;omega
  have hi8:i<8:=by have:=H.o.hn;have:=HI.o;omega
  exact ⟨(m3.cel wb (1+i * 4) H.o.hi H.o.col (by rw [dcol_x hi8];exact n1)).trans D2.o.1,(m3.cel wb (1+i * 4+1) H.o.hi H.o.col (by rw [dcol_c hi8];exact n1)).trans D2.o.2.1,n3.q.dk,⟨by have:=D2.o.2.2.2.1;omega,HBT.o⟩,D2.o.2.2.2.2⟩))
 have M3:=hI (M2.o.tr (m3.mono (nd_wr ⟨HI.o.1,by have:=H.o.hn;have:=HI.o;omega⟩)) wr0)
 clear n3 m3 H M2 D2
 refine hK (CL [(⟨wb,0,none⟩,.int .i64 (W.n:Int))]) _ _ (fun _ h=>h) ⟨H3.o.c0,trivial⟩ (fun _=>?_)
 clear hK K
 repeat ((first|refine gqq fun K hK=>?_|refine gkk fun K hK=>?_);go_big_quiet_op;refine hK _ ?_;clear hK K)
 refine rg_nil ?_
 go_wp2_with fail
 refine (cnew_any M3.o.cl x).mono ?_
 rintro e w4 ⟨c,rfl,cl4,x4⟩
 have CL4:=hI cl4
 have N4:=hI (N3.o.ext x4)
 have H4:=hI (H3.o.ext x4)
 have M4:=hI (M3.o.tr (Fm.ext M3.o.cl x4) wr0)
 clear cl4 x4 N3 H3 M3
 have D4:=hI (H4.o.dn (i:=i) (bt:=bt+1) (dv:=dv) HI.o (by
  have hl:i-1<W.sl.length:=(List.getElem?_eq_some_iff.1 HSL.o).1
  simp [hl]))
 have cx:=D4.o.1
 have cc:=D4.o.2.1
 have fz:=H4.o.fz
 obtain ⟨H5,M5⟩:=H4.o.put2 (sd:=.up (newN (i:Int) (W.n:Int) (bt+1) dv)) M4.o.cl HI.o (ptrN x) (ptrN c) (fun F=>by
  have h0:¬ one 1 0:=by unfold one;omega
  refine ⟨⟨x,c,A,?_,?_,N4.o.fr (by have:=HI.o;omega) F h0 (fun d hd=>by unfold one at hd;unfold ndI;have:=HI.o;omega),CL4.o.fr F h0⟩,rfl,rfl⟩
  ·rw [World.cell?_setCell_other (h:=by simp <;> omega)]
   exact World.cell?_setCell_same (h:=D4.o.1) ..
  ·exact World.cell?_setCell_same (h:=by rw [World.cell?_setCell_other (h:=by simp <;> omega)];exact D4.o.2.1) ..)
 have HH5:=hI H5
 have MM5:=hI (M4.o.tr M5 wr0)
 clear H5 M5 D4
 go_wp2
 go_ret
 refine ⟨rfl,o3,?_,MM5.o⟩
 have:=HH5.o
 rw [List.set_set] at this
 rw [← HW.o]
 exact this
theorem wtick_any (hcl:Cl w o) (h:WrV w o wb g W) {k od lv:Int} {da:ByteArray} {i:Nat} (hi:1≤i∧i≤W.n) (hs:tickW i W=some W') :
  Calls Tryz.prog 66 #[ptrN wb,stV 2 (i:Int) k od lv da] w fun e w'=>e=.returned (.int .i64 0)∧∃ o',WrV w' o' wb g W'∧Fm wrC o o' w w':=by
 have HS:=hI hs
 have HI:=hI hi
 have H:=hI h
 have HC:=hI hcl
 have f1:(0:Int)≤(i:Int):=by omega
 have f2:(i:Int)<8:=by have:=h.hn;omega
 have f7:((2:Int)==7)=false:=rfl
 have f6:((2:Int)==6)=false:=rfl
 have f2:((2:Int)==2)=true:=rfl
 clear hcl h hs hi
 go_enter Tryz.func66,Tryz.ntmps66
 go_upto_region 1 with fail
 change Code.wp _ _ _ _ (w.alloc (.cells (stA 2 (i:Int) k od lv da) 28))
 have A0:=hI (Ext.alloc w (.cells (stA 2 (i:Int) k od lv da) 28))
 have SB:=hI (BoxC.loose HC.o (stA 2 (i:Int) k od lv da) (stL 2 (i:Int) k od lv da) 28 rfl)
 replace H:=hI (H.o.ext A0.o)
 have M1:=hI (Fm.ext (C:=wrC) HC.o A0.o)
 clear A0 HC
 generalize w.alloc (.cells (stA 2 (i:Int) k od lv da) 28)=w1 at *
 generalize w.heap.size=sb at *
 have d1:=SB.o.box.c 1 _ rfl
 go_wp2_with fail
 refine (wis_any H.o (i:Int)).mono ?_
 rw [is_yes HI.o]
 rintro e w2 ⟨rfl,rfl⟩
 go_upto_region 3 with fail
 clear d1
 obtain ⟨W2,hW⟩:∃ W2,W2=w1.drew:=⟨_,rfl⟩
 have X2:Hid (Ext w1 W2):=hI (by rw [hW];exact Ext.drew w1)
 replace H:=hI (H.o.ext X2.o)
 replace SB:=hI (SB.o.ext X2.o)
 have gs1:=fun d os=>Ext.cell (Ext.reg W2 d os) (SB.o.box.c 1 _ rfl)
 refine att [0,1,2,3,4,5,6] [] ?_
 rw [← hW]
 clear hW
 repeat ((first|refine aqq fun K hK=>?_|refine akk fun K hK=>?_);go_big_quiet_op;refine hK _ ?_;clear hK K)
 refine ra_nil ?_
 refine rt_nil ?_
 have M2:=hI (M1.o.tr (Fm.ext M1.o.cl X2.o) wr0)
 clear X2 M1 gs1
 have d0:=SB.o.box.c 0 _ rfl
 have HSX:=HS.o
 unfold tickW at HSX
 split at HSX
 case h_2=>cases HSX
 rename_i s hsl
 obtain ⟨x,c,A,q1,q2,nd,cl,hid,hn⟩:=H.o.up HI.o hsl
 cases hr:tickO s with
 | none=>rw [hr] at HSX;cases HSX
 | some r=>
 rw [hr] at HSX
 simp only at HSX
 obtain ⟨ms,s'⟩:=r
 unfold setW at HSX
 split at HSX
 case isFalse=>cases HSX
 rename_i hids
 have HID:=hI (of_decide_eq_true hids)
 have HR:=hI hr
 have HW:=hI (Option.some.inj HSX)
 have Q1:=hI q1
 have Q2:=hI q2
 have ND:=hI nd
 have CLI:=hI cl
 have QI:=hI (And.intro hid hn)
 clear HS HSX hsl hids hr q2 nd cl hid hn
 go_upto_region 12 with fail
 clear d0 q1
 obtain ⟨W3,hW⟩:∃ W3,W3=W2.drew:=⟨_,rfl⟩
 have X3:Hid (Ext W2 W3):=hI (by rw [hW];exact Ext.drew W2)
 replace H:=hI (H.o.ext X3.o)
 have r33:=fun (qq:Wrap (CL [(⟨wb,33,none⟩,ptrN g),(⟨wb,1+i * 4,none⟩,ptrN x)]))=>(qq.h.1:qq.w.cell? ⟨wb,33,none⟩=some (ptrN g))
 have rx:=fun (qq:Wrap (CL [(⟨wb,33,none⟩,ptrN g),(⟨wb,1+i * 4,none⟩,ptrN x)]))=>(qq.h.2.1:qq.w.cell? ⟨wb,1+i * 4,none⟩=some (ptrN x))
 refine gtt [0,1,2,3,4,5,6,7,8,9] (CL [(⟨wb,33,none⟩,ptrN g),(⟨wb,1+i * 4,none⟩,ptrN x)]) (by rw [← hW];exact ⟨H.o.c33,(Ext.cell X3.o Q1.o),trivial⟩) (fun _=>?_)
 rw [← hW]
 clear hW
 repeat ((first|refine gqq fun K hK=>?_|refine gkk fun K hK=>?_);go_big_quiet_op;refine hK _ ?_;clear hK K)
 replace Q1:=hI (Ext.cell X3.o Q1.o)
 replace Q2:=hI (Ext.cell X3.o Q2.o)
 replace ND:=hI (ND.o.ext X3.o)
 replace CLI:=hI (CLI.o.ext X3.o)
 have M3:=hI (M2.o.tr (Fm.ext M2.o.cl X3.o) wr0)
 clear X3 M2
 refine gcc fun K hK=>?_
 go_simp
 refine (ntick_any M3.o.cl (by have:=HI.o;omega) ND.o HR.o).mono ?_
 rintro e w10 ⟨o10,A10,p10,c10,rfl,ou10,nd10,f10⟩
 have H10:=hI (H.o.said HI.o Q1.o Q2.o CLI.o QI.o.1 QI.o.2 f10 nd10 HID.o)
 have OU10:=hI ou10
 have n1:¬ ndC (32 * i) 1:=by unfold ndC;have:=HI.o;omega
 have hi8:i<8:=by have:=H.o.hn;have:=HI.o;omega
 have Q10:=hI ((f10.cel wb (1+i * 4) H.o.hi H.o.col (by rw [dcol_x hi8];exact n1)).trans Q1.o)
 have M10:=hI (M3.o.tr (f10.mono (nd_wr ⟨HI.o.1,hi8⟩)) wr0)
 clear ou10 nd10 f10 Q1 Q2 ND CLI H M3
 refine hK (CL [(⟨wb,33,none⟩,ptrN g),(⟨wb,1+i * 4,none⟩,ptrN x)]) _ _ (fun _ h=>h) ⟨H10.o.c33,Q10.o,trivial⟩ (fun _=>?_)
 clear hK K
 repeat ((first|refine gqq fun K hK=>?_|refine gkk fun K hK=>?_);go_big_quiet_op;refine hK _ ?_;clear hK K)
 refine gcc fun K hK=>?_
 go_simp
 refine (wsend_any M10.o.cl H10.o.net OU10.o (by have:=HI.o;omega)).mono ?_
 rintro e w11 ⟨o11,z11,rfl,n11,m11⟩
 have H11:=hI (H10.o.mails m11 n11)
 have M11:=hI (M10.o.tr (m11.mono net_wr) wr0)
 have Q11:=hI ((m11.cel wb (1+i * 4) H10.o.hi H10.o.col (by rw [dcol_x hi8];unfold netC;omega)).trans Q10.o)
 clear n11 m11
 refine hK (fun W=>W=w11) _ _ (fun W h=>by rw [h];exact ⟨H11.o.c33,Q11.o,trivial⟩) rfl (fun _=>?_)
 clear hK K
 refine rg_nil ?_
 rw [show ({ ({ W with sl:=W.sl.set (i-1) (.up s') }:WrD) with ns:=sendN W.ns ms }:WrD)=W' from HW.o] at H11
 go_wp2
 go_ret
 exact ⟨rfl,o11,H11.o,M11.o⟩
theorem wcast_any (hcl:Cl w o) (h:WrV w o wb g W) {k od lv:Int} {da:ByteArray} {i:Nat} (hi:1≤i∧i≤W.n) (hs:castW i od lv da W=some W') :
  Calls Tryz.prog 66 #[ptrN wb,stV 8 (i:Int) k od lv da] w fun e w'=>e=.returned (.int .i64 0)∧∃ o',WrV w' o' wb g W'∧Fm wrC o o' w w':=by
 have HS:=hI hs
 have HI:=hI hi
 have H:=hI h
 have HC:=hI hcl
 have f1:(0:Int)≤(i:Int):=by omega
 have f2:(i:Int)<8:=by have:=h.hn;omega
 have f7:((8:Int)==7)=false:=rfl
 have f6:((8:Int)==6)=false:=rfl
 have f2:((8:Int)==2)=false:=rfl
 clear hcl h hs hi
 go_enter Tryz.func66,Tryz.ntmps66
 go_upto_region 1 with fail
 change Code.wp _ _ _ _ (w.alloc (.cells (stA 8 (i:Int) k od lv da) 28))
 have A0:=hI (Ext.alloc w (.cells (stA 8 (i:Int) k od lv da) 28))
 have SB:=hI (BoxC.loose HC.o (stA 8 (i:Int) k od lv da) (stL 8 (i:Int) k od lv da) 28 rfl)
 replace H:=hI (H.o.ext A0.o)
 have M1:=hI (Fm.ext (C:=wrC) HC.o A0.o)
 clear A0 HC
 generalize w.alloc (.cells (stA 8 (i:Int) k od lv da) 28)=w1 at *
 generalize w.heap.size=sb at *
 have d1:=SB.o.box.c 1 _ rfl
 go_wp2_with fail
 refine (wis_any H.o (i:Int)).mono ?_
 rw [is_yes HI.o]
 rintro e w2 ⟨rfl,rfl⟩
 go_upto_region 3 with fail
 clear d1
 obtain ⟨W2,hW⟩:∃ W2,W2=w1.drew:=⟨_,rfl⟩
 have X2:Hid (Ext w1 W2):=hI (by rw [hW];exact Ext.drew w1)
 replace H:=hI (H.o.ext X2.o)
 replace SB:=hI (SB.o.ext X2.o)
 have gs1:=fun d os=>Ext.cell (Ext.reg W2 d os) (SB.o.box.c 1 _ rfl)
 refine att [0,1,2,3,4,5,6] [] ?_
 rw [← hW]
 clear hW
 repeat ((first|refine aqq fun K hK=>?_|refine akk fun K hK=>?_);go_big_quiet_op;refine hK _ ?_;clear hK K)
 refine ra_nil ?_
 refine rt_nil ?_
 have M2:=hI (M1.o.tr (Fm.ext M1.o.cl X2.o) wr0)
 clear X2 M1 gs1
 have d0:=SB.o.box.c 0 _ rfl
 have HSX:=HS.o
 unfold castW at HSX
 split at HSX
 case h_2=>cases HSX
 rename_i s hsl
 obtain ⟨x,c,A,q1,q2,nd,cl,hid,hn⟩:=H.o.up HI.o hsl
 cases hr:castO s od lv da with
 | none=>rw [hr] at HSX;cases HSX
 | some s'=>
 rw [hr] at HSX
 simp only at HSX
 split at HSX
 case isFalse=>cases HSX
 rename_i hids
 have HID:=hI (of_decide_eq_true hids)
 have HR:=hI hr
 have HW:=hI (Option.some.inj HSX)
 have Q1:=hI q1
 have Q2:=hI q2
 have ND:=hI nd
 have CLI:=hI cl
 have QI:=hI (And.intro hid hn)
 clear HS HSX hsl hids hr q2 nd cl hid hn
 go_upto_region 4 with fail
 clear d0 q1
 obtain ⟨W3,hW⟩:∃ W3,W3=W2.drew:=⟨_,rfl⟩
 have X3:Hid (Ext W2 W3):=hI (by rw [hW];exact Ext.drew W2)
 replace H:=hI (H.o.ext X3.o)
 replace SB:=hI (SB.o.ext X3.o)
 replace ND:=hI (ND.o.ext X3.o)
 replace CLI:=hI (CLI.o.ext X3.o)
 have gc:=fun d os=>Ext.cell (Ext.reg W3 d os) (Ext.cell X3.o Q2.o)
 have gs3:=fun d os=>Ext.cell (Ext.reg W3 d os) (SB.o.box.c 3 _ rfl)
 have gs4:=fun d os=>Ext.cell (Ext.reg W3 d os) (SB.o.box.c 4 _ rfl)
 have gs5:=fun d os=>Ext.cell (Ext.reg W3 d os) (SB.o.box.c 5 _ rfl)
 refine att [0,1,2,3,4,5,6,7,8,9] [10,11] ?_
 rw [← hW]
 clear hW
 repeat ((first|refine aqq fun K hK=>?_|refine akk fun K hK=>?_);go_big_quiet_op;refine hK _ ?_;clear hK K)
 have M3:=hI (M2.o.tr (Fm.ext M2.o.cl X3.o) wr0)
 replace Q1:=hI (Ext.cell X3.o Q1.o)
 replace Q2:=hI (Ext.cell X3.o Q2.o)
 clear X3 M2
 refine ra_nil ?_
 refine too fun K hK=>?_
 go_simp
 refine (ccast_any M3.o.cl (by have:=HI.o;omega) CLI.o ND.o HR.o).mono ?_
 rintro e w10 ⟨rfl,o10,A10,nd10,f10⟩
 have H10:=hI (H.o.said HI.o Q1.o Q2.o CLI.o QI.o.1 QI.o.2 f10 nd10 HID.o)
 have M10:=hI (M3.o.tr (f10.mono (nd_wr ⟨HI.o.1,by have:=H.o.hn;have:=HI.o;omega⟩)) wr0)
 clear nd10 f10 Q1 Q2 ND CLI H M3 gc gs3 gs4 gs5
 refine hK _ _ ?_
 clear hK K
 refine too fun K hK=>?_
 go_simp
 refine hK _ _ ?_
 clear hK K
 refine rt_nil ?_
 rw [HW.o] at H10
 go_wp2
 go_ret
 exact ⟨rfl,o10,H10.o,M10.o⟩
end
section
open Go Go.Sort Go.RowKit
variable {w w4:World} {o o4:Ow} {wb g:Nat} {W W':WrD}
def tickN (W:WrD) (i:Nat):Option WrD:=
 match W.sl[i-1]? with
 | some (.up s)=>
  match tickO s with
  | none=>none
  | some r=>setW W i s r.2 r.1
 | some (.dn _ _)=>some W
 | none=>none
def mailsW:Nat→WrD→Option WrD
 | 0,W=>some W
 | k+1,W=>match W.ns with
  | []=>some W
  | _::_=>(mailW false 0 W).bind (mailsW k)
def wellR (W:WrD):Option WrD:=
 if decide (W.rl<1000000) then (foldO tickN (List.range' 1 W.n) { W with rl:=W.rl+1 }).bind (mailsW 3000) else none
def wellW:Nat→WrD→Option WrD
 | 0,W=>some W
 | k+1,W=>(wellR W).bind (wellW k)
theorem setW_n {i:Nat} {s s':NdD} {ms:List (MsD × List EnD)} (h:setW W i s s' ms=some W'):W'.n=W.n:=by
 unfold setW at h
 split at h
 ·cases h
  rfl
 ·cases h
theorem tickN_n {i:Nat} (h:tickN W i=some W'):W'.n=W.n:=by
 unfold tickN at h
 split at h
 ·split at h
  ·cases h
  ·exact setW_n h
 ·cases h
  rfl
 ·cases h
theorem mailW_n {b:Bool} {k:Nat} (h:mailW b k W=some W'):W'.n=W.n:=by
 unfold mailW at h
 split at h
 ·cases h
 ·split at h
  ·cases h
   rfl
  ·split at h
   ·split at h
    ·split at h
     ·cases h
     ·exact (setW_n h).trans rfl
    ·cases h
     rfl
    ·cases h
   ·cases h
theorem mailsW_n:∀ (k:Nat) (W W':WrD),mailsW k W=some W'→W'.n=W.n
 | 0,W,W',h=>by cases h;rfl
 | k+1,W,W',h=>by
  unfold mailsW at h
  split at h
  ·cases h
   rfl
  ·obtain ⟨V,h1,h2⟩:=Option.bind_eq_some_iff.1 h
   exact (mailsW_n k V W' h2).trans (mailW_n h1)
theorem foldO_n {F:WrD→Nat→Option WrD} (hF:∀ W i W',F W i=some W'→W'.n=W.n):∀ (l:List Nat) (W W':WrD),foldO F l W=some W'→W'.n=W.n
 | [],W,W',h=>by cases h;rfl
 | i::l,W,W',h=>by
  obtain ⟨V,h1,h2⟩:=foldO_cons h
  exact (foldO_n hF l V W' h2).trans (hF _ _ _ h1)
theorem wellR_n (h:wellR W=some W'):W'.n=W.n:=by
 unfold wellR at h
 split at h
 ·obtain ⟨V,h1,h2⟩:=Option.bind_eq_some_iff.1 h
  exact (mailsW_n _ _ _ h2).trans ((foldO_n (F:=tickN) (fun W i W' h=>tickN_n h) _ _ _ h1).trans rfl)
 ·cases h
theorem nTick_nil {w:World} :
  Calls Tryz.prog 84 #[.pointer none] w fun e w'=>e=.returned (.slice none 0 0)∧w=w':=by
 go_enter Tryz.func84,Tryz.ntmps84
 go_wp2
 go_ret
 trivial
theorem WrV.later (h:WrV w o wb g W) (hcl:Cl w o) (hr:W.rl<1000000):WrV (w.setCell ⟨wb,34,none⟩ (.int .i64 (W.rl+1))) o wb g { W with rl:=W.rl+1 }∧Fm wrC o o w (w.setCell ⟨wb,34,none⟩ (.int .i64 (W.rl+1))):=by
 have hn:=h.hn
 have F:=Fm.cell1 (C:=one 1) hcl (g:=wb) (j:=34) (.int .i64 (W.rl+1)) h.col rfl
 have hc:∀ j,j≠34→(w.setCell ⟨wb,34,none⟩ (.int .i64 (W.rl+1))).cell? ⟨wb,j,none⟩=w.cell? ⟨wb,j,none⟩:=fun j h1=>by
  rw [World.cell?_setCell_other (h:=by simp <;> omega)]
 have c34:(w.setCell ⟨wb,34,none⟩ (.int .i64 (W.rl+1))).cell? ⟨wb,34,none⟩=some (.int .i64 (W.rl+1)):=World.cell?_setCell_same (h:=h.c34) ..
 have FW:Fm wrC o o w (w.setCell ⟨wb,34,none⟩ (.int .i64 (W.rl+1))):=F.mono (fun d hd=>.inl hd)
 generalize w.setCell ⟨wb,34,none⟩ (.int .i64 (W.rl+1))=w2 at *
 have h0:¬ one 1 0:=by unfold one;omega
 refine ⟨⟨h.col,Nat.lt_of_lt_of_le h.hi F.size,(hc 0 (by omega)).trans h.c0,(hc 33 (by omega)).trans h.c33,c34,fun j=>(F.frz wb j h.hi h.col).trans (h.fz j),h.net.fr F h0 (by unfold one;omega) (by unfold one;omega),h.hn,by have:=h.hr;show 0≤W.rl+1∧W.rl+1≤1000000;omega,fun j a b=>?_⟩,FW⟩
 obtain ⟨sj,e,sv⟩:=h.sl j a b
 have b':j≤W.n:=b
 refine ⟨sj,e,?_⟩
 have cx:=hc (1+j * 4) (by omega)
 have cc:=hc (1+j * 4+1) (by omega)
 cases sj with
 | up s=>
  obtain ⟨⟨x,c,A,h1,h2,h3,h4⟩,h5⟩:=sv
  exact ⟨⟨x,c,A,cx.trans h1,cc.trans h2,h3.fr (by omega) F h0 (fun d hd=>by unfold one at hd;unfold ndI;omega),h4.fr F h0⟩,h5⟩
 | dn bt dv=>
  obtain ⟨h1,h2,h3,h4⟩:=sv
  exact ⟨cx.trans h1,cc.trans h2,h3.fr F (by unfold one;omega),h4⟩
theorem wmail0_any (hcl:Cl w o) (h:WrV w o wb g W) (hs:W.ns=[]) :
  Calls Tryz.prog 65 #[ptrN wb,stV 3 0 0 0 0 ⟨#[]⟩] w fun e w'=>e=.returned (.int .i64 3)∧Ext w w':=by
 have H:=hI h
 have HC:=hI hcl
 have HS:=hI hs
 clear hcl h hs
 go_enter Tryz.func65,Tryz.ntmps65
 go_upto_region 1 with fail
 change Code.wp _ _ _ _ (w.alloc (.cells (stA 3 0 0 0 0 ⟨#[]⟩) 28))
 have A0:=hI (Ext.alloc w (.cells (stA 3 0 0 0 0 ⟨#[]⟩) 28))
 have SB:=hI (BoxC.loose HC.o (stA 3 0 0 0 0 ⟨#[]⟩) (stL 3 0 0 0 0 ⟨#[]⟩) 28 rfl)
 replace H:=hI (H.o.ext A0.o)
 generalize w.alloc (.cells (stA 3 0 0 0 0 ⟨#[]⟩) 28)=w1 at *
 generalize w.heap.size=sb at *
 obtain ⟨W2,hW⟩:∃ W2,W2=w1.drew:=⟨_,rfl⟩
 have X2:Hid (Ext w1 W2):=hI (by rw [hW];exact Ext.drew w1)
 replace H:=hI (H.o.ext X2.o)
 replace SB:=hI (SB.o.ext X2.o)
 have g33:=fun d os=>Ext.cell (Ext.reg W2 d os) H.o.c33
 have gs2:=fun d os=>Ext.cell (Ext.reg W2 d os) (SB.o.box.c 2 _ rfl)
 refine att [0,1,2,3,4,5,6,7,8,9,10,11] [] ?_
 rw [← hW]
 clear hW
 repeat ((first|refine aqq fun K hK=>?_|refine akk fun K hK=>?_);go_big_quiet_op;refine hK _ ?_;clear hK K)
 refine acc fun K hK=>?_
 go_simp
 have LK:Calls Tryz.prog 47 #[ptrN g,.int .i64 0] W2 fun e w'=>(∃ p c,e=.returned (.tuple #[.slice p 0 c,.bool false]))∧Ext W2 w':=by
  obtain ⟨p,cap,ds,hN,hm,-⟩:=H.o.net
  have hl:ds=[]:=by rw [HS.o] at hm;simpa using hm
  subst hl
  refine (nlook_any hN.nv 0).mono ?_
  rintro e w' ⟨p',c',rfl,-,x⟩
  exact ⟨⟨p',c',rfl⟩,x⟩
 refine LK.mono ?_
 clear LK
 rintro e w3 ⟨⟨pb,cb,rfl⟩,x3⟩
 have XX:=hI ((A0.o.tr X2.o).tr x3)
 refine hK _ _ x3 ?_
 clear hK K x3
 repeat ((first|refine aqq fun K hK=>?_|refine akk fun K hK=>?_);go_big_quiet_op;refine hK _ ?_;clear hK K)
 refine ra_nil ?_
 refine rt_nil ?_
 go_wp2
 go_ret
 exact ⟨rfl,XX.o⟩
theorem wwell_any (hcl:Cl w o) (h:WrV w o wb g W) {k:Nat} (hk:k≤200) (hs:wellW k W=some W') :
  Calls Tryz.prog 64 #[ptrN wb,.int .i64 (k:Int)] w fun e w'=>e=.returned (.int .i64 0)∧∃ o',WrV w' o' wb g W'∧Fm wrC o o' w w':=by
 have H:=hI h
 have HC:=hI hcl
 have HS:=hI hs
 have e1:decide ((k:Int)<0)=false:=decide_eq_false (by omega)
 have e2:decide (200<(k:Int))=false:=decide_eq_false (by omega)
 have M0:=hI (Fm.refl (C:=wrC) hcl)
 have hn7:W.n≤7:=h.hn.2
 clear hcl h hs
 go_enter Tryz.func64,Tryz.ntmps64
 go_wp2
 go_loopw [13] (fun i wr=>∃ (j:Nat) (oj:Ow) (Wj:WrD),j≤k∧i=.int .i64 (j:Int)∧WrV wr oj wb g Wj∧wellW (k-j) Wj=some W'∧Wj.n=W.n∧Fm wrC o oj w wr) (fun i _=>k-(intOf i).toNat)
 case atStart=>exact ⟨0,o,W,by omega,rfl,H.o,HS.o,rfl,M0.o⟩
 case round=>
  obtain ⟨j,oj,Wj,hj,rfl,hv,hw,hn,mj⟩:=hrel
  have HJ:=hI hv
  have HWJ:=hI hw
  have HNJ:=hI hn
  have MJ:=hI mj
  clear hv hw hn mj H HC HS M0
  by_cases hlt:j<k
  ·have hlt':decide ((j:Int)<(k:Int))=true:=decide_eq_true (by omega)
   have HW1:=HWJ.o
   rw [show k-j=(k-(j+1))+1 by omega] at HW1
   unfold wellW at HW1
   obtain ⟨W2,hr,hrest⟩:=Option.bind_eq_some_iff.1 HW1
   have HREST:=hI hrest
   have HN2:=hI (wellR_n hr)
   unfold wellR at hr
   split at hr
   case isFalse=>cases hr
   rename_i hrl
   obtain ⟨W1,hf,hm⟩:=Option.bind_eq_some_iff.1 hr
   have HF:=hI hf
   have HM:=hI hm
   have HRL:=hI (of_decide_eq_true hrl)
   have HN1:=hI (foldO_n (F:=tickN) (fun W i W' h=>tickN_n h) _ _ _ hf)
   have c34:=HJ.o.c34
   have f34:=HJ.o.fz 34
   have hwr:wrap64 (Wj.rl+1)=Wj.rl+1:=by have h1:=HJ.o.hr;unfold wrap64;omega
   obtain ⟨h3,m3⟩:=HJ.o.later MJ.o.cl HRL.o
   have H3:=hI h3
   have M3:=hI (MJ.o.tr m3 wr0)
   clear HW1 hrest hr hf hm hrl h3 m3 HWJ
   go_upto_region 6 with fail
   clear c34 f34 hwr
   generalize wr.setCell ⟨wb,34,none⟩ (.int .i64 (Wj.rl+1))=w3 at *
   clear HJ MJ
   go_wp2
   go_loopw [5] (fun i wr=>∃ (a:Nat) (oa:Ow) (Wa:WrD),1≤a∧a≤W.n+1∧i=.int .i64 (a:Int)∧WrV wr oa wb g Wa∧foldO tickN (List.range' a (W.n+1-a)) Wa=some W1∧Wa.n=W.n∧Fm wrC o oa w wr) (fun i _=>W.n+1-(intOf i).toNat)
   case atStart=>exact ⟨1,oj,_,by omega,by omega,rfl,H3.o,by rw [Nat.add_sub_cancel,show List.range' 1 W.n=List.range' 1 Wj.n by rw [HNJ.o]];exact HF.o,HNJ.o,M3.o⟩
   case round=>
    obtain ⟨a,oa,Wa,ha1,ha2,rfl,hv,hf,hn,ma⟩:=hrel
    have HA:=hI hv
    have HFA:=hI hf
    have HNA:=hI hn
    have MA:=hI ma
    clear hv hf hn ma H3 M3 HF
    have c0:=HA.o.c0
    rw [HNA.o] at c0
    by_cases hlt2:a≤W.n
    ·have e3:decide ((a:Int)≤(W.n:Int))=true:=decide_eq_true (by omega)
     have hr:=HFA.o
     rw [show W.n+1-a=(W.n+1-(a+1))+1 by omega,List.range'_succ] at hr
     obtain ⟨Wb,ht,hrest⟩:=foldO_cons hr
     have HTK:=hI ht
     have HRB:=hI hrest
     have HAI:Hid (1≤a∧a≤Wa.n):=hI ⟨ha1,by rw [HNA.o];exact hlt2⟩
     have HNB:Hid (Wb.n=W.n):=hI ((tickN_n ht).trans HNA.o)
     clear hr ht hrest HFA
     go_upto_region 9 with fail
     clear c0
     cases hsl:Wa.sl[a-1]? with
     | none=>
      have:=HTK.o
      unfold tickN at this
      rw [hsl] at this
      cases this
     | some sd=>
     cases sd with
     | dn bt dv=>
      have HSL:=hI hsl
      have HWB:Hid (Wa=Wb):=hI (by
       have:=HTK.o
       unfold tickN at this
       rw [hsl] at this
       exact Option.some.inj this)
      clear hsl
      obtain ⟨W5,hW⟩:∃ W5,W5=wr.drew:=⟨_,rfl⟩
      have X5:Hid (Ext wr W5):=hI (by rw [hW];exact Ext.drew wr)
      replace HA:=hI (HA.o.ext X5.o)
      have r33:=fun (qq:Wrap (CL [(⟨wb,33,none⟩,ptrN g)]))=>(qq.h.1:qq.w.cell? ⟨wb,33,none⟩=some (ptrN g))
      refine gtt [0,1,2,3,4,5,6,7,8] (CL [(⟨wb,33,none⟩,ptrN g)]) (by rw [← hW];exact ⟨HA.o.c33,trivial⟩) (fun _=>?_)
      rw [← hW]
      clear hW
      repeat ((first|refine gqq fun K hK=>?_|refine gkk fun K hK=>?_);go_big_quiet_op;refine hK _ ?_;clear hK K)
      have M5:=hI (MA.o.tr (Fm.ext MA.o.cl X5.o) wr0)
      clear X5 MA
      refine gcc fun K hK=>?_
      go_simp
      refine (wnode_dn HA.o HAI.o HSL.o).mono ?_
      rintro e w9 ⟨rfl,rfl⟩
      refine hK (CL [(⟨wb,33,none⟩,ptrN g)]) _ _ (fun _ h=>h) ⟨HA.o.c33,trivial⟩ (fun _=>?_)
      clear hK K
      repeat ((first|refine gqq fun K hK=>?_|refine gkk fun K hK=>?_);go_big_quiet_op;refine hK _ ?_;clear hK K)
      refine gcc fun K hK=>?_
      go_simp
      refine nTick_nil.mono ?_
      rintro e w9 ⟨rfl,rfl⟩
      refine hK (CL [(⟨wb,33,none⟩,ptrN g)]) _ _ (fun _ h=>h) ⟨HA.o.c33,trivial⟩ (fun _=>?_)
      clear hK K
      repeat ((first|refine gqq fun K hK=>?_|refine gkk fun K hK=>?_);go_big_quiet_op;refine hK _ ?_;clear hK K)
      refine gcc fun K hK=>?_
      go_simp
      refine (wsend_any M5.o.cl HA.o.net (OutV.none W5 oa 48) (by omega)).mono ?_
      rintro e w11 ⟨o11,z11,rfl,n11,m11⟩
      have H11:=hI (HA.o.mails m11 n11)
      have M11:=hI (M5.o.tr (m11.mono net_wr) wr0)
      clear n11 m11
      refine hK (fun W=>W=w11) _ _ (fun W h=>by rw [h];exact ⟨H11.o.c33,trivial⟩) rfl (fun _=>?_)
      clear hK K
      refine rg_nil ?_
      have e11:sendN Wa.ns []=Wa.ns:=rfl
      rw [e11,show ({ Wa with ns:=Wa.ns }:WrD)=Wb from HWB.o] at H11
      clear e11
      go_wp2
      go_roundw
      case rel=>exact ⟨a+1,o11,Wb,by omega,by omega,by go_num,H11.o,HRB.o,HNB.o,M11.o⟩
      case measure=>simp [intOf];omega
     | up s=>
      have HSL:=hI hsl
      have HSX:=HTK.o
      unfold tickN at HSX
      rw [hsl] at HSX
      simp only at HSX
      cases hr:tickO s with
      | none=>rw [hr] at HSX;cases HSX
      | some r=>
      rw [hr] at HSX
      simp only at HSX
      obtain ⟨ms,s'⟩:=r
      unfold setW at HSX
      split at HSX
      case isFalse=>cases HSX
      rename_i hids
      have HID:=hI (of_decide_eq_true hids)
      have HR:=hI hr
      have HW:=hI (Option.some.inj HSX)
      clear HSX hsl hids hr
      obtain ⟨W5,hW⟩:∃ W5,W5=wr.drew:=⟨_,rfl⟩
      have X5:Hid (Ext wr W5):=hI (by rw [hW];exact Ext.drew wr)
      replace HA:=hI (HA.o.ext X5.o)
      have r33:=fun (qq:Wrap (CL [(⟨wb,33,none⟩,ptrN g)]))=>(qq.h.1:qq.w.cell? ⟨wb,33,none⟩=some (ptrN g))
      refine gtt [0,1,2,3,4,5,6,7,8] (CL [(⟨wb,33,none⟩,ptrN g)]) (by rw [← hW];exact ⟨HA.o.c33,trivial⟩) (fun _=>?_)
      rw [← hW]
      clear hW
      repeat ((first|refine gqq fun K hK=>?_|refine gkk fun K hK=>?_);go_big_quiet_op;refine hK _ ?_;clear hK K)
      have M5:=hI (MA.o.tr (Fm.ext MA.o.cl X5.o) wr0)
      clear X5 MA
      refine gcc fun K hK=>?_
      go_simp
      refine (wnode_up HA.o HAI.o HSL.o).mono ?_
      rintro e w9 ⟨xx,cc,A,rfl,h1,h2,nd,cl,hid,hn,rfl⟩
      have Q1:=hI h1
      have Q2:=hI h2
      have ND:=hI nd
      have CLI:=hI cl
      have QI:=hI (And.intro hid hn)
      clear h1 h2 nd cl hid hn
      refine hK (CL [(⟨wb,33,none⟩,ptrN g)]) _ _ (fun _ h=>h) ⟨HA.o.c33,trivial⟩ (fun _=>?_)
      clear hK K
      repeat ((first|refine gqq fun K hK=>?_|refine gkk fun K hK=>?_);go_big_quiet_op;refine hK _ ?_;clear hK K)
      refine gcc fun K hK=>?_
      go_simp
      refine (ntick_any M5.o.cl (by omega) ND.o HR.o).mono ?_
      rintro e w10 ⟨o10,A10,p10,c10,rfl,ou10,nd10,f10⟩
      have H10:=hI (HA.o.said HAI.o Q1.o Q2.o CLI.o QI.o.1 QI.o.2 f10 nd10 HID.o)
      have OU10:=hI ou10
      have M10:=hI (M5.o.tr (f10.mono (nd_wr ⟨HAI.o.1,by have:=HA.o.hn;have:=HAI.o.2;omega⟩)) wr0)
      clear ou10 nd10 f10 Q1 Q2 ND CLI HA M5
      refine hK (CL [(⟨wb,33,none⟩,ptrN g)]) _ _ (fun _ h=>h) ⟨H10.o.c33,trivial⟩ (fun _=>?_)
      clear hK K
      repeat ((first|refine gqq fun K hK=>?_|refine gkk fun K hK=>?_);go_big_quiet_op;refine hK _ ?_;clear hK K)
      refine gcc fun K hK=>?_
      go_simp
      refine (wsend_any M10.o.cl H10.o.net OU10.o (by omega)).mono ?_
      rintro e w11 ⟨o11,z11,rfl,n11,m11⟩
      have H11:=hI (H10.o.mails m11 n11)
      have M11:=hI (M10.o.tr (m11.mono net_wr) wr0)
      clear n11 m11
      refine hK (fun W=>W=w11) _ _ (fun W h=>by rw [h];exact ⟨H11.o.c33,trivial⟩) rfl (fun _=>?_)
      clear hK K
      refine rg_nil ?_
      rw [show ({ ({ Wa with sl:=Wa.sl.set (a-1) (.up s') }:WrD) with ns:=sendN Wa.ns ms }:WrD)=Wb from HW.o] at H11
      go_wp2
      go_roundw
      case rel=>exact ⟨a+1,o11,Wb,by omega,by omega,by go_num,H11.o,HRB.o,HNB.o,M11.o⟩
      case measure=>simp [intOf];omega
    ·have e3:decide ((a:Int)≤(W.n:Int))=false:=decide_eq_false (by omega)
     have ha3:a=W.n+1:=by omega
     have HW1:Hid (Wa=W1):=hI (by
      have:=HFA.o
      rw [ha3,Nat.sub_self] at this
      exact Option.some.inj this)
     clear ha3 HFA
     rw [HW1.o] at HA HNA
     clear HW1
     go_wp2
     go_loopw [39] (fun i wr=>∃ (b:Nat) (ob:Ow) (Wb:WrD),b≤3000∧i=.int .i64 (b:Int)∧WrV wr ob wb g Wb∧mailsW (3000-b) Wb=some W2∧Wb.n=W.n∧Fm wrC o ob w wr) (fun i _=>3000-(intOf i).toNat)
     case atStart=>exact ⟨0,oa,W1,by omega,rfl,HA.o,HM.o,HNA.o,MA.o⟩
     case round=>
      obtain ⟨b,ob,Wb,hb,rfl,hv,hm,hn,mb⟩:=hrel
      have HB:=hI hv
      have HMB:=hI hm
      have HNB:=hI hn
      have MB:=hI mb
      clear hv hm hn mb HA MA HM c0
      by_cases hlt3:b<3000
      ·have e4:decide ((b:Int)<3000)=true:=decide_eq_true (by omega)
       have hr:=HMB.o
       rw [show 3000-b=(3000-(b+1))+1 by omega] at hr
       unfold mailsW at hr
       cases hns:Wb.ns with
       | nil=>
        rw [hns] at hr
        simp only at hr
        have HWB:=hI (Option.some.inj hr)
        have HNS:=hI hns
        clear hr hns
        go_wp2_with fail
        refine (wmail0_any MB.o.cl HB.o HNS.o).mono ?_
        rintro e w5 ⟨rfl,x5⟩
        have HB5:=hI (HB.o.ext x5)
        have MB5:=hI (MB.o.tr (Fm.ext MB.o.cl x5) wr0)
        rw [HWB.o] at HB5 HNB
        clear x5 HB MB
        go_wp2
        go_roundw
        case rel=>exact ⟨j+1,ob,W2,by omega,by go_num,HB5.o,HREST.o,HNB.o,MB5.o⟩
        case measure=>simp [intOf];omega
       | cons x l=>
        rw [hns] at hr
        simp only at hr
        obtain ⟨Wc,hma,hmr⟩:=Option.bind_eq_some_iff.1 hr
        have HMA:=hI hma
        have HMR:=hI hmr
        have HNC:Hid (Wc.n=W.n):=hI ((mailW_n hma).trans HNB.o)
        clear hr hns hma hmr
        go_wp2_with fail
        refine (wmail_any (k:=0) MB.o.cl HB.o HMA.o).mono ?_
        rintro e w5 ⟨rfl,o5,h5,m5⟩
        have HB5:=hI h5
        have MB5:=hI (MB.o.tr m5 wr0)
        clear h5 m5 HB MB
        go_wp2
        go_roundw
        case rel=>exact ⟨b+1,o5,Wc,by omega,by go_num,HB5.o,HMR.o,HNC.o,MB5.o⟩
        case measure=>simp [intOf];omega
      ·have e4:decide ((b:Int)<3000)=false:=decide_eq_false (by omega)
       have HWB:Hid (Wb=W2):=hI (by
        have:=HMB.o
        rw [show 3000-b=0 by omega] at this
        exact Option.some.inj this)
       rw [HWB.o] at HB HNB
       go_wp2
       go_roundw
       case rel=>exact ⟨j+1,ob,W2,by omega,by go_num,HB.o,HREST.o,HNB.o,MB.o⟩
       case measure=>simp [intOf];omega
  ·have hjk:j=k:=by omega
   have hlt':decide ((j:Int)<(k:Int))=false:=decide_eq_false (by omega)
   have HWW:Hid (Wj=W'):=hI (by
    have:=HWJ.o
    rw [hjk,Nat.sub_self] at this
    exact Option.some.inj this)
   clear hjk
   rw [HWW.o] at HJ
   go_wp2
   go_ret
   exact ⟨rfl,oj,HJ.o,MJ.o⟩
theorem wstep3_any (hcl:Cl w o) (h:WrV w o wb g W) {a od lv:Int} {da:ByteArray} {k:Nat} (hs:mailW false k W=some W') :
  Calls Tryz.prog 44 #[ptrN wb,stV 3 a (k:Int) od lv da] w fun e w'=>e=.returned (.int .i64 0)∧∃ o',WrV w' o' wb g W'∧Fm wrC o o' w w':=by
 have CC:=fun (w:World) (hcl:Cl w o) (h:WrV w o wb g W)=>wmail_any (a:=a) (od:=od) (lv:=lv) (da:=da) hcl h hs
 have H:=hI h
 have HC:=hI hcl
 have f1:((3:Int)==1)=false:=rfl
 have f9:((3:Int)==9)=false:=rfl
 have f3:((3:Int)==3)=true:=rfl
 have f4:((3:Int)==4)=false:=rfl
 have f5:((3:Int)==5)=false:=rfl
 have f2:((3:Int)==2)=false:=rfl
 have f6:((3:Int)==6)=false:=rfl
 have f7:((3:Int)==7)=false:=rfl
 have f8:((3:Int)==8)=false:=rfl
 clear hcl h
 go_enter Tryz.func44,Tryz.ntmps44
 go_upto_region 1 with fail
 change Code.wp _ _ _ _ (w.alloc (.cells (stA 3 a (k:Int) od lv da) 28))
 have A0:=hI (Ext.alloc w (.cells (stA 3 a (k:Int) od lv da) 28))
 have SB:=hI (BoxC.loose HC.o (stA 3 a (k:Int) od lv da) (stL 3 a (k:Int) od lv da) 28 rfl)
 replace H:=hI (H.o.ext A0.o)
 have M1:=hI (Fm.ext (C:=wrC) HC.o A0.o)
 have CB:=hI (CC _ M1.o.cl H.o)
 clear A0 HC CC
 generalize w.alloc (.cells (stA 3 a (k:Int) od lv da) 28)=w1 at *
 generalize w.heap.size=sb at *
 have d0:=SB.o.box.c 0 _ rfl
 have d1:=SB.o.box.c 1 _ rfl
 have d2:=SB.o.box.c 2 _ rfl
 have d3:=SB.o.box.c 3 _ rfl
 have d4:=SB.o.box.c 4 _ rfl
 have d5:=SB.o.box.c 5 _ rfl
 go_wp2_with fail
 refine CB.o.mono ?_
 rintro e w9 ⟨rfl,o9,h9,m9⟩
 have H9:=hI h9
 have M9:=hI (M1.o.tr m9 wr0)
 clear h9 m9
 go_wp2
 go_ret
 exact ⟨rfl,o9,H9.o,M9.o⟩
theorem wstep4_any (hcl:Cl w o) (h:WrV w o wb g W) {a od lv:Int} {da:ByteArray} {k:Nat} (hs:mailW true k W=some W') :
  Calls Tryz.prog 44 #[ptrN wb,stV 4 a (k:Int) od lv da] w fun e w'=>e=.returned (.int .i64 0)∧∃ o',WrV w' o' wb g W'∧Fm wrC o o' w w':=by
 have CC:=fun (w:World) (hcl:Cl w o) (h:WrV w o wb g W)=>wmailD_any (a:=a) (od:=od) (lv:=lv) (da:=da) hcl h hs
 have H:=hI h
 have HC:=hI hcl
 have f1:((4:Int)==1)=false:=rfl
 have f9:((4:Int)==9)=false:=rfl
 have f3:((4:Int)==3)=false:=rfl
 have f4:((4:Int)==4)=true:=rfl
 have f5:((4:Int)==5)=false:=rfl
 have f2:((4:Int)==2)=false:=rfl
 have f6:((4:Int)==6)=false:=rfl
 have f7:((4:Int)==7)=false:=rfl
 have f8:((4:Int)==8)=false:=rfl
 clear hcl h
 go_enter Tryz.func44,Tryz.ntmps44
 go_upto_region 1 with fail
 change Code.wp _ _ _ _ (w.alloc (.cells (stA 4 a (k:Int) od lv da) 28))
 have A0:=hI (Ext.alloc w (.cells (stA 4 a (k:Int) od lv da) 28))
 have SB:=hI (BoxC.loose HC.o (stA 4 a (k:Int) od lv da) (stL 4 a (k:Int) od lv da) 28 rfl)
 replace H:=hI (H.o.ext A0.o)
 have M1:=hI (Fm.ext (C:=wrC) HC.o A0.o)
 have CB:=hI (CC _ M1.o.cl H.o)
 clear A0 HC CC
 generalize w.alloc (.cells (stA 4 a (k:Int) od lv da) 28)=w1 at *
 generalize w.heap.size=sb at *
 have d0:=SB.o.box.c 0 _ rfl
 have d1:=SB.o.box.c 1 _ rfl
 have d2:=SB.o.box.c 2 _ rfl
 have d3:=SB.o.box.c 3 _ rfl
 have d4:=SB.o.box.c 4 _ rfl
 have d5:=SB.o.box.c 5 _ rfl
 go_wp2_with fail
 refine CB.o.mono ?_
 rintro e w9 ⟨rfl,o9,h9,m9⟩
 have H9:=hI h9
 have M9:=hI (M1.o.tr m9 wr0)
 clear h9 m9
 go_wp2
 go_ret
 exact ⟨rfl,o9,H9.o,M9.o⟩
theorem wstep9_any (hcl:Cl w o) (h:WrV w o wb g W) {a od lv:Int} {da:ByteArray} {k:Nat} (hk:k≤200) (hs:wellW k W=some W') :
  Calls Tryz.prog 44 #[ptrN wb,stV 9 a (k:Int) od lv da] w fun e w'=>e=.returned (.int .i64 0)∧∃ o',WrV w' o' wb g W'∧Fm wrC o o' w w':=by
 have CC:=fun (w:World) (hcl:Cl w o) (h:WrV w o wb g W)=>wwell_any hcl h hk hs
 have H:=hI h
 have HC:=hI hcl
 have f1:((9:Int)==1)=false:=rfl
 have f9:((9:Int)==9)=true:=rfl
 have f3:((9:Int)==3)=false:=rfl
 have f4:((9:Int)==4)=false:=rfl
 have f5:((9:Int)==5)=false:=rfl
 have f2:((9:Int)==2)=false:=rfl
 have f6:((9:Int)==6)=false:=rfl
 have f7:((9:Int)==7)=false:=rfl
 have f8:((9:Int)==8)=false:=rfl
 clear hcl h
 go_enter Tryz.func44,Tryz.ntmps44
 go_upto_region 1 with fail
 change Code.wp _ _ _ _ (w.alloc (.cells (stA 9 a (k:Int) od lv da) 28))
 have A0:=hI (Ext.alloc w (.cells (stA 9 a (k:Int) od lv da) 28))
 have SB:=hI (BoxC.loose HC.o (stA 9 a (k:Int) od lv da) (stL 9 a (k:Int) od lv da) 28 rfl)
 replace H:=hI (H.o.ext A0.o)
 have M1:=hI (Fm.ext (C:=wrC) HC.o A0.o)
 have CB:=hI (CC _ M1.o.cl H.o)
 clear A0 HC CC
 generalize w.alloc (.cells (stA 9 a (k:Int) od lv da) 28)=w1 at *
 generalize w.heap.size=sb at *
 have d0:=SB.o.box.c 0 _ rfl
 have d1:=SB.o.box.c 1 _ rfl
 have d2:=SB.o.box.c 2 _ rfl
 have d3:=SB.o.box.c 3 _ rfl
 have d4:=SB.o.box.c 4 _ rfl
 have d5:=SB.o.box.c 5 _ rfl
 go_wp2_with fail
 refine CB.o.mono ?_
 rintro e w9 ⟨rfl,o9,h9,m9⟩
 have H9:=hI h9
 have M9:=hI (M1.o.tr m9 wr0)
 clear h9 m9
 go_wp2
 go_ret
 exact ⟨rfl,o9,H9.o,M9.o⟩
theorem wstep2_any (hcl:Cl w o) (h:WrV w o wb g W) {k od lv:Int} {da:ByteArray} {i:Nat} (hi:1≤i∧i≤W.n) (hs:tickW i W=some W') :
  Calls Tryz.prog 44 #[ptrN wb,stV 2 (i:Int) k od lv da] w fun e w'=>e=.returned (.int .i64 0)∧∃ o',WrV w' o' wb g W'∧Fm wrC o o' w w':=by
 have CC:=fun (w:World) (hcl:Cl w o) (h:WrV w o wb g W)=>wtick_any (k:=k) (od:=od) (lv:=lv) (da:=da) hcl h hi hs
 have H:=hI h
 have HC:=hI hcl
 have f1:((2:Int)==1)=false:=rfl
 have f9:((2:Int)==9)=false:=rfl
 have f3:((2:Int)==3)=false:=rfl
 have f4:((2:Int)==4)=false:=rfl
 have f5:((2:Int)==5)=false:=rfl
 have f2:((2:Int)==2)=true:=rfl
 have f6:((2:Int)==6)=false:=rfl
 have f7:((2:Int)==7)=false:=rfl
 have f8:((2:Int)==8)=false:=rfl
 clear hcl h
 go_enter Tryz.func44,Tryz.ntmps44
 go_upto_region 1 with fail
 change Code.wp _ _ _ _ (w.alloc (.cells (stA 2 (i:Int) k od lv da) 28))
 have A0:=hI (Ext.alloc w (.cells (stA 2 (i:Int) k od lv da) 28))
 have SB:=hI (BoxC.loose HC.o (stA 2 (i:Int) k od lv da) (stL 2 (i:Int) k od lv da) 28 rfl)
 replace H:=hI (H.o.ext A0.o)
 have M1:=hI (Fm.ext (C:=wrC) HC.o A0.o)
 have CB:=hI (CC _ M1.o.cl H.o)
 clear A0 HC CC
 generalize w.alloc (.cells (stA 2 (i:Int) k od lv da) 28)=w1 at *
 generalize w.heap.size=sb at *
 have d0:=SB.o.box.c 0 _ rfl
 have d1:=SB.o.box.c 1 _ rfl
 have d2:=SB.o.box.c 2 _ rfl
 have d3:=SB.o.box.c 3 _ rfl
 have d4:=SB.o.box.c 4 _ rfl
 have d5:=SB.o.box.c 5 _ rfl
 go_wp2_with fail
 refine CB.o.mono ?_
 rintro e w9 ⟨rfl,o9,h9,m9⟩
 have H9:=hI h9
 have M9:=hI (M1.o.tr m9 wr0)
 clear h9 m9
 go_wp2
 go_ret
 exact ⟨rfl,o9,H9.o,M9.o⟩
theorem wstep8_any (hcl:Cl w o) (h:WrV w o wb g W) {k od lv:Int} {da:ByteArray} {i:Nat} (hi:1≤i∧i≤W.n) (hs:castW i od lv da W=some W') :
  Calls Tryz.prog 44 #[ptrN wb,stV 8 (i:Int) k od lv da] w fun e w'=>e=.returned (.int .i64 0)∧∃ o',WrV w' o' wb g W'∧Fm wrC o o' w w':=by
 have CC:=fun (w:World) (hcl:Cl w o) (h:WrV w o wb g W)=>wcast_any (k:=k) (od:=od) (lv:=lv) (da:=da) hcl h hi hs
 have H:=hI h
 have HC:=hI hcl
 have f1:((8:Int)==1)=false:=rfl
 have f9:((8:Int)==9)=false:=rfl
 have f3:((8:Int)==3)=false:=rfl
 have f4:((8:Int)==4)=false:=rfl
 have f5:((8:Int)==5)=false:=rfl
 have f2:((8:Int)==2)=false:=rfl
 have f6:((8:Int)==6)=false:=rfl
 have f7:((8:Int)==7)=false:=rfl
 have f8:((8:Int)==8)=true:=rfl
 clear hcl h
 go_enter Tryz.func44,Tryz.ntmps44
 go_upto_region 1 with fail
 change Code.wp _ _ _ _ (w.alloc (.cells (stA 8 (i:Int) k od lv da) 28))
 have A0:=hI (Ext.alloc w (.cells (stA 8 (i:Int) k od lv da) 28))
 have SB:=hI (BoxC.loose HC.o (stA 8 (i:Int) k od lv da) (stL 8 (i:Int) k od lv da) 28 rfl)
 replace H:=hI (H.o.ext A0.o)
 have M1:=hI (Fm.ext (C:=wrC) HC.o A0.o)
 have CB:=hI (CC _ M1.o.cl H.o)
 clear A0 HC CC
 generalize w.alloc (.cells (stA 8 (i:Int) k od lv da) 28)=w1 at *
 generalize w.heap.size=sb at *
 have d0:=SB.o.box.c 0 _ rfl
 have d1:=SB.o.box.c 1 _ rfl
 have d2:=SB.o.box.c 2 _ rfl
 have d3:=SB.o.box.c 3 _ rfl
 have d4:=SB.o.box.c 4 _ rfl
 have d5:=SB.o.box.c 5 _ rfl
 go_wp2_with fail
 refine CB.o.mono ?_
 rintro e w9 ⟨rfl,o9,h9,m9⟩
 have H9:=hI h9
 have M9:=hI (M1.o.tr m9 wr0)
 clear h9 m9
 go_wp2
 go_ret
 exact ⟨rfl,o9,H9.o,M9.o⟩
theorem wstep1_any (hcl:Cl w o) (h:WrV w o wb g W) {a k od lv:Int} {da:ByteArray} (hr:W.rl<1000000) :
  Calls Tryz.prog 44 #[ptrN wb,stV 1 a k od lv da] w fun e w'=>e=.returned (.int .i64 0)∧WrV w' o wb g { W with rl:=W.rl+1 }∧Fm wrC o o w w':=by
 have H:=hI h
 have HC:=hI hcl
 have HR:=hI hr
 clear hcl h hr
 go_enter Tryz.func44,Tryz.ntmps44
 go_upto_region 1 with fail
 change Code.wp _ _ _ _ (w.alloc (.cells (stA 1 a k od lv da) 28))
 have A0:=hI (Ext.alloc w (.cells (stA 1 a k od lv da) 28))
 have SB:=hI (BoxC.loose HC.o (stA 1 a k od lv da) (stL 1 a k od lv da) 28 rfl)
 replace H:=hI (H.o.ext A0.o)
 have M1:=hI (Fm.ext (C:=wrC) HC.o A0.o)
 clear A0 HC
 generalize w.alloc (.cells (stA 1 a k od lv da) 28)=w1 at *
 generalize w.heap.size=sb at *
 have d0:=SB.o.box.c 0 _ rfl
 have c34:=H.o.c34
 have f34:=H.o.fz 34
 have f1:((1:Int)==1)=true:=rfl
 have hwr:wrap64 (W.rl+1)=W.rl+1:=by have h1:=H.o.hr;unfold wrap64;omega
 obtain ⟨h3,m3⟩:=H.o.later M1.o.cl HR.o
 have H3:=hI h3
 have M3:=hI (M1.o.tr m3 wr0)
 clear h3 m3
 go_wp2
 go_ret
 exact ⟨rfl,H3.o,M3.o⟩
theorem wstep0_any (hcl:Cl w o) :
  Calls Tryz.prog 44 #[ptrN wb,stV 0 0 0 0 0 ⟨#[]⟩] w fun e w'=>e=.returned (.int .i64 1)∧Ext w w':=by
 have HC:=hI hcl
 clear hcl
 go_enter Tryz.func44,Tryz.ntmps44
 go_upto_region 1 with fail
 change Code.wp _ _ _ _ (w.alloc (.cells (stA 0 0 0 0 0 ⟨#[]⟩) 28))
 have A0:=hI (Ext.alloc w (.cells (stA 0 0 0 0 0 ⟨#[]⟩) 28))
 have SB:=hI (BoxC.loose HC.o (stA 0 0 0 0 0 ⟨#[]⟩) (stL 0 0 0 0 0 ⟨#[]⟩) 28 rfl)
 generalize w.alloc (.cells (stA 0 0 0 0 0 ⟨#[]⟩) 28)=w1 at *
 generalize w.heap.size=sb at *
 have d0:=SB.o.box.c 0 _ rfl
 have f1:((0:Int)==1)=false:=rfl
 have f9:((0:Int)==9)=false:=rfl
 have f3:((0:Int)==3)=false:=rfl
 have f4:((0:Int)==4)=false:=rfl
 have f5:((0:Int)==5)=false:=rfl
 have f2:((0:Int)==2)=false:=rfl
 have f6:((0:Int)==6)=false:=rfl
 have f7:((0:Int)==7)=false:=rfl
 have f8:((0:Int)==8)=false:=rfl
 go_wp2
 go_ret
 exact ⟨rfl,A0.o⟩
end
section
open Go Go.Sort Go.RowKit
variable {w w4:World} {o o4:Ow} {wb g:Nat} {W W':WrD}
def emptyW (n:Nat):WrD:=⟨n,List.replicate n (.dn 0 0),[],0⟩
def startN (W:WrD) (i:Nat):Option WrD:=startW i W
def newW (n:Nat):Option WrD:=foldO startN (List.range' 1 n) (emptyW n)
theorem startN_n {i:Nat} (h:startN W i=some W'):W'.n=W.n:=by
 unfold startN startW at h
 split at h
 ·split at h
  ·cases h
   rfl
  ·cases h
 ·cases h
abbrev wrL (n g:Nat):List Value:=[.int .i64 (n:Int),.pointer none,.pointer none,.int .i64 0,.int .i64 0,.pointer none,.pointer none,.int .i64 0,.int .i64 0,.pointer none,.pointer none,.int .i64 0,.int .i64 0,.pointer none,.pointer none,.int .i64 0,.int .i64 0,.pointer none,.pointer none,.int .i64 0,.int .i64 0,.pointer none,.pointer none,.int .i64 0,.int .i64 0,.pointer none,.pointer none,.int .i64 0,.int .i64 0,.pointer none,.pointer none,.int .i64 0,.int .i64 0,ptrN g,.int .i64 0]
abbrev wrA (n g:Nat):Array Value:=#[.int .i64 (n:Int),.pointer none,.pointer none,.int .i64 0,.int .i64 0,.pointer none,.pointer none,.int .i64 0,.int .i64 0,.pointer none,.pointer none,.int .i64 0,.int .i64 0,.pointer none,.pointer none,.int .i64 0,.int .i64 0,.pointer none,.pointer none,.int .i64 0,.int .i64 0,.pointer none,.pointer none,.int .i64 0,.int .i64 0,.pointer none,.pointer none,.int .i64 0,.int .i64 0,.pointer none,.pointer none,.int .i64 0,.int .i64 0,ptrN g,.int .i64 0]
theorem wr_new {n:Nat} (hn:3≤n∧n≤7) (hcl:Cl w o) (hg:NetN w o g []) (hgl:g<w.heap.size):WrV (w.alloc (.cells (wrA n g) 86)) (dye o w.heap.size 1) w.heap.size g (emptyW n)∧Fm wrC o (dye o w.heap.size 1) w (w.alloc (.cells (wrA n g) 86)):=by
 have F:=Fm.made (C:=wrC) hcl (.cells (wrA n g) 86) 1
 have B:=BoxC.made w o 1 (wrA n g) (wrL n g) 86 rfl
 have N:=hg.fr (Fm.made (C:=fun _=>False) hcl (.cells (wrA n g) 86) 1) (fun e=>e) (fun e=>e) (fun e=>e)
 generalize w.alloc (.cells (wrA n g) 86)=w1 at *
 generalize dye o w.heap.size 1=o1 at *
 generalize w.heap.size=wb at *
 refine ⟨⟨B.col,B.box.hi,B.box.c 0 _ rfl,B.box.c 33 _ rfl,B.box.c 34 _ rfl,B.box.f,N,hn,by show 0≤(0:Int)∧(0:Int)≤1000000;omega,fun i h1 h2=>?_⟩,F⟩
 have h2:i≤n:=h2
 refine ⟨.dn 0 0,?_,?_⟩
 ·show (List.replicate n (SlotD.dn 0 0))[i-1]?=some (.dn 0 0)
  rw [List.getElem?_replicate,if_pos (by omega)]
 ·have:i=1∨i=2∨i=3∨i=4∨i=5∨i=6∨i=7:=by omega
  rcases this with rfl | rfl | rfl | rfl | rfl | rfl | rfl
  ·exact ⟨B.box.c 5 _ rfl,B.box.c 6 _ rfl,⟨B.col,B.box.hi,rfl,rfl,B.box.c 7 _ rfl,B.box.c 8 _ rfl,B.box.f 7,B.box.f 8⟩,by omega,by omega⟩
  ·exact ⟨B.box.c 9 _ rfl,B.box.c 10 _ rfl,⟨B.col,B.box.hi,rfl,rfl,B.box.c 11 _ rfl,B.box.c 12 _ rfl,B.box.f 11,B.box.f 12⟩,by omega,by omega⟩
  ·exact ⟨B.box.c 13 _ rfl,B.box.c 14 _ rfl,⟨B.col,B.box.hi,rfl,rfl,B.box.c 15 _ rfl,B.box.c 16 _ rfl,B.box.f 15,B.box.f 16⟩,by omega,by omega⟩
  ·exact ⟨B.box.c 17 _ rfl,B.box.c 18 _ rfl,⟨B.col,B.box.hi,rfl,rfl,B.box.c 19 _ rfl,B.box.c 20 _ rfl,B.box.f 19,B.box.f 20⟩,by omega,by omega⟩
  ·exact ⟨B.box.c 21 _ rfl,B.box.c 22 _ rfl,⟨B.col,B.box.hi,rfl,rfl,B.box.c 23 _ rfl,B.box.c 24 _ rfl,B.box.f 23,B.box.f 24⟩,by omega,by omega⟩
  ·exact ⟨B.box.c 25 _ rfl,B.box.c 26 _ rfl,⟨B.col,B.box.hi,rfl,rfl,B.box.c 27 _ rfl,B.box.c 28 _ rfl,B.box.f 27,B.box.f 28⟩,by omega,by omega⟩
  ·exact ⟨B.box.c 29 _ rfl,B.box.c 30 _ rfl,⟨B.col,B.box.hi,rfl,rfl,B.box.c 31 _ rfl,B.box.c 32 _ rfl,B.box.f 31,B.box.f 32⟩,by omega,by omega⟩
theorem wnewW_any (hcl:Cl w o) {n:Nat} (hn:3≤n∧n≤7) (hs:newW n=some W') :
  Calls Tryz.prog 63 #[.int .i64 (n:Int)] w fun e w'=>∃ o' wb g,e=.returned (ptrN wb)∧WrV w' o' wb g W'∧Fm wrC o o' w w':=by
 have HC:=hI hcl
 have HS:=hI hs
 have HN:=hI hn
 have hn7:n≤7:=hn.2
 have e1:(decT 1 (n:Int)==0)=false:=by rw [decT1 (by omega)];rfl
 clear hcl hs hn
 go_enter Tryz.func63,Tryz.ntmps63
 go_wp2_with fail
 refine (tdec_any 1 (n:Int) (by omega) (by have:=HN.o;omega) _).mono ?_
 rintro e w0 ⟨rfl,rfl⟩
 go_wp2_with fail
 refine (wnew_any HC.o).mono ?_
 rintro e w2 ⟨o2,rfl,n2,f2⟩
 have hgl:w.heap.size<w2.heap.size:=by
  obtain ⟨p,cap,ds,h,-⟩:=n2
  exact h.nv.box.hi
 obtain ⟨h3,m3⟩:=wr_new HN.o f2.cl n2 hgl
 have H3:=hI h3
 have M3:=hI ((f2.mono (C':=wrC) (fun d e=>e.elim)).tr m3 wr0)
 clear h3 m3 n2 f2 hgl HC
 go_upto_region 4 with fail
 change Code.wp _ _ _ _ (w2.alloc (.cells (wrA n w.heap.size) 86))
 generalize w2.alloc (.cells (wrA n w.heap.size) 86)=w3 at *
 generalize dye o2 w2.heap.size 1=o3 at *
 generalize w2.heap.size=wb at *
 obtain ⟨g,hg⟩:∃ g,g=w.heap.size:=⟨_,rfl⟩
 rw [← hg] at H3
 clear hg
 go_wp2
 go_loopw [4] (fun i wr=>∃ (a:Nat) (oa:Ow) (Wa:WrD),1≤a∧a≤n+1∧i=.int .i64 (a:Int)∧WrV wr oa wb g Wa∧foldO startN (List.range' a (n+1-a)) Wa=some W'∧Wa.n=n∧Fm wrC o oa w wr) (fun i _=>n+1-(intOf i).toNat)
 case atStart=>exact ⟨1,o3,emptyW n,by omega,by omega,rfl,H3.o,by rw [Nat.add_sub_cancel];exact HS.o,rfl,M3.o⟩
 case round=>
  obtain ⟨a,oa,Wa,ha1,ha2,rfl,hv,hf,hna,ma⟩:=hrel
  have HA:=hI hv
  have HFA:=hI hf
  have HNA:=hI hna
  have MA:=hI ma
  clear hv hf hna ma H3 M3 HS
  by_cases hlt2:a≤n
  ·have e3:decide ((a:Int)≤(n:Int))=true:=decide_eq_true (by omega)
   have hr:=HFA.o
   rw [show n+1-a=(n+1-(a+1))+1 by omega,List.range'_succ] at hr
   obtain ⟨Wb,ht,hrest⟩:=foldO_cons hr
   have HTK:=hI ht
   have HRB:=hI hrest
   have HAI:Hid (1≤a∧a≤Wa.n):=hI ⟨ha1,by rw [HNA.o];exact hlt2⟩
   have HNB:Hid (Wb.n=n):=hI ((startN_n ht).trans HNA.o)
   clear hr ht hrest HFA
   go_wp2_with fail
   refine (wstart_any MA.o.cl HA.o HAI.o HTK.o).mono ?_
   rintro e w5 ⟨rfl,o5,h5,m5⟩
   have H5:=hI h5
   have M5:=hI (MA.o.tr m5 wr0)
   clear h5 m5
   go_wp2
   go_roundw
   case rel=>exact ⟨a+1,o5,Wb,by omega,by omega,by go_num,H5.o,HRB.o,HNB.o,M5.o⟩
   case measure=>simp [intOf];omega
  ·have e3:decide ((a:Int)≤(n:Int))=false:=decide_eq_false (by omega)
   have HW1:Hid (Wa=W'):=hI (by
    have:=HFA.o
    rw [show n+1-a=0 by omega] at this
    exact Option.some.inj this)
   rw [HW1.o] at HA
   go_wp2
   go_ret
   exact ⟨oa,wb,g,rfl,HA.o,MA.o⟩
end
section
open Go Go.Sort Go.RowKit
structure LwD where
 W:WrD
 n:Nat
 fm:List (List EnD)
 nw:E8
 td:E8
 sn:Nat
 vs:List (Int × Int × Int)
 cs:List EnD
 bo:E8
 vi:E8
structure LwA where
 wb:Nat
 g:Nat
 fp:Option Addr
 fc:Nat
 rows:List (Option Addr × Nat)
 sp:Option Addr
 sc:Nat
 vp:Option Addr
 vc:Nat
 cp:Option Addr
 cc:Nat
 sl:E8
 ev:Bool
abbrev lwL (A:LwA) (L:LwD):List Value:=[ptrN A.wb,.int .i64 (L.n:Int),.slice A.fp L.fm.length A.fc,.int .i64 L.nw.e0,.int .i64 L.nw.e1,.int .i64 L.nw.e2,.int .i64 L.nw.e3,.int .i64 L.nw.e4,.int .i64 L.nw.e5,.int .i64 L.nw.e6,.int .i64 L.nw.e7,.int .i64 L.td.e0,.int .i64 L.td.e1,.int .i64 L.td.e2,.int .i64 L.td.e3,.int .i64 L.td.e4,.int .i64 L.td.e5,.int .i64 L.td.e6,.int .i64 L.td.e7,.slice A.sp L.sn A.sc,.slice A.vp L.vs.length A.vc,.slice A.cp L.cs.length A.cc,.int .i64 L.bo.e0,.int .i64 L.bo.e1,.int .i64 L.bo.e2,.int .i64 L.bo.e3,.int .i64 L.bo.e4,.int .i64 L.bo.e5,.int .i64 L.bo.e6,.int .i64 L.bo.e7,.int .i64 L.vi.e0,.int .i64 L.vi.e1,.int .i64 L.vi.e2,.int .i64 L.vi.e3,.int .i64 L.vi.e4,.int .i64 L.vi.e5,.int .i64 L.vi.e6,.int .i64 L.vi.e7,.int .i64 A.sl.e0,.int .i64 A.sl.e1,.int .i64 A.sl.e2,.int .i64 A.sl.e3,.int .i64 A.sl.e4,.int .i64 A.sl.e5,.int .i64 A.sl.e6,.int .i64 A.sl.e7,.bool A.ev]
def fmRow:List (Option Addr × Nat)→List (List EnD)→List (List Value)
 | r::rs,l::ls=>[.slice r.1 l.length r.2]::fmRow rs ls
 | _,_=>[]
abbrev inL (x:Int × Int × Int):List Value:=[.int .i64 x.1,.int .i64 x.2.1,.int .i64 x.2.2]
theorem fmRow_app:∀ (rs:List (Option Addr × Nat)) (ls:List (List EnD)) (r:Option Addr × Nat) (l:List EnD),rs.length=ls.length→fmRow (rs++[r]) (ls++[l])=fmRow rs ls++[[.slice r.1 l.length r.2]]
 | [],[],r,l,_=>rfl
 | a::rs,b::ls,r,l,h=>by
  simp only [List.cons_append,fmRow]
  rw [fmRow_app rs ls r l (by simpa using h)]
 | [],b::ls,r,l,h=>by simp at h
 | a::rs,[],r,l,h=>by simp at h
theorem fmRow_at:∀ (rs:List (Option Addr × Nat)) (ls:List (List EnD)) (i:Nat) (r:Option Addr × Nat) (l:List EnD),rs[i]?=some r→ls[i]?=some l→(fmRow rs ls)[i]?=some [.slice r.1 l.length r.2]
 | a::rs,b::ls,0,r,l,h1,h2=>by simp at h1 h2;subst h1;subst h2;rfl
 | a::rs,b::ls,i+1,r,l,h1,h2=>by
  simp only [fmRow,List.getElem?_cons_succ]
  exact fmRow_at rs ls i r l (by simpa using h1) (by simpa using h2)
 | [],_,i,r,l,h1,h2=>by simp at h1
 | a::rs,[],i,r,l,h1,h2=>by simp at h2
theorem fmRow_set:∀ (rs:List (Option Addr × Nat)) (ls:List (List EnD)) (i:Nat) (r:Option Addr × Nat) (l:List EnD),fmRow (rs.set i r) (ls.set i l)=(fmRow rs ls).set i [.slice r.1 l.length r.2]
 | a::rs,b::ls,0,r,l=>rfl
 | a::rs,b::ls,i+1,r,l=>by simp only [List.set_cons_succ,fmRow];rw [fmRow_set rs ls i r l]
 | [],_,i,r,l=>by simp [fmRow]
 | a::rs,[],i,r,l=>by simp [fmRow]
def lwC (d:Nat):Prop:=wrC d∨(300≤d∧d<400)
theorem lw0:¬ lwC 0:=by unfold lwC wrC;omega
structure LwQ (w:World) (o:Ow) (A:LwA) (L:LwD):Prop where
 wr:WrV w o A.wb A.g L.W
 nn:L.W.n=L.n
 fo:RowC 43 1 w o 301 A.fp L.fm.length A.fc (fmRow A.rows L.fm)
 fl:A.rows.length=L.fm.length
 fi:∀ (i:Nat) (r:Option Addr × Nat) (l:List EnD),A.rows[i]?=some r→L.fm[i]?=some l→RowC 71 7 w o (310+i) r.1 l.length r.2 (l.map enL)
 so:∃ S,RowC 116 8 w o 302 A.sp L.sn A.sc S
 vo:RowC 104 3 w o 303 A.vp L.vs.length A.vc (L.vs.map inL)
 co:RowC 71 7 w o 304 A.cp L.cs.length A.cc (L.cs.map enL)
 mx:L.fm.length≤80∧L.sn≤100000∧L.vs.length≤1000∧L.cs.length≤1000∧∀ l ∈ L.fm,l.length≤1000
structure LwV (w:World) (o:Ow) (lw:Nat) (A:LwA) (L:LwD):Prop where
 box:BoxC w o 300 lw (lwL A L)
 q:LwQ w o A L
variable {w w4:World} {o o4:Ow} {lw:Nat} {A A':LwA} {L L':LwD}
theorem LwQ.ext (h:LwQ w o A L) (k:Ext w w4):LwQ w4 o A L:=
 ⟨h.wr.ext k,h.nn,h.fo.ext k,h.fl,fun i r l a b=>(h.fi i r l a b).ext k,(by obtain ⟨S,hS⟩:=h.so;exact ⟨S,hS.ext k⟩),h.vo.ext k,h.co.ext k,h.mx⟩
theorem LwV.ext (h:LwV w o lw A L) (k:Ext w w4):LwV w4 o lw A L:=⟨h.box.ext k,h.q.ext k⟩
theorem LwQ.fr {C:Nat→Prop} (h:LwQ w o A L) (k:Fm C o o4 w w4) (hC:∀ d,C d→d≠0∧¬ wrC d∧d≠301∧d≠302∧d≠303∧d≠304∧¬ (310≤d∧d<400)):LwQ w4 o4 A L:=
 ⟨h.wr.fr k (fun d hd=>⟨(hC d hd).1,(hC d hd).2.1⟩),h.nn,h.fo.fr k (by decide) (fun e=>(hC _ e).2.2.1 rfl),h.fl,fun i r l a b=>(h.fi i r l a b).fr k (by omega) (fun e=>(hC _ e).2.2.2.2.2.2 (by
  have h1:=h.mx.1
  have h2:i<L.fm.length:=(List.getElem?_eq_some_iff.1 b).1
  omega)),(by obtain ⟨S,hS⟩:=h.so;exact ⟨S,hS.fr k (by decide) (fun e=>(hC _ e).2.2.2.1 rfl)⟩),h.vo.fr k (by decide) (fun e=>(hC _ e).2.2.2.2.1 rfl),h.co.fr k (by decide) (fun e=>(hC _ e).2.2.2.2.2.1 rfl),h.mx⟩
theorem LwV.put (h:LwV w o lw A L) (hcl:Cl w o) (i:Nat) (v:Value) (hb:(lwL A L).set i v=lwL A' L') (hq:LwQ (w.setCell ⟨lw,i,none⟩ v) o A L→LwQ (w.setCell ⟨lw,i,none⟩ v) o A' L') :
  LwV (w.setCell ⟨lw,i,none⟩ v) o lw A' L'∧Fm lwC o o w (w.setCell ⟨lw,i,none⟩ v):=by
 have F:=Fm.put (C:=one 300) hcl h.box (by decide) rfl i v
 have B:=h.box.put i v
 rw [hb] at B
 exact ⟨⟨B,hq (h.q.fr F (fun d hd=>by unfold one at hd;subst hd;unfold wrC;omega))⟩,F.mono (fun d hd=>by unfold one at hd;subst hd;unfold lwC;omega)⟩
theorem LwV.went {W':WrD} (h:LwV w o lw A L) (k:Fm wrC o o4 w w4) (hw:WrV w4 o4 A.wb A.g W') (hn:W'.n=L.n):LwV w4 o4 lw A { L with W:=W' }:=by
 have q:=h.q
 exact ⟨h.box.fr k (by decide) (by unfold wrC;omega),⟨hw,hn,q.fo.fr k (by decide) (by unfold wrC;omega),q.fl,fun i r l a b=>(q.fi i r l a b).fr k (by omega) (by unfold wrC;omega),(by obtain ⟨S,hS⟩:=q.so;exact ⟨S,hS.fr k (by decide) (by unfold wrC;omega)⟩),q.vo.fr k (by decide) (by unfold wrC;omega),q.co.fr k (by decide) (by unfold wrC;omega),q.mx⟩⟩
theorem wr_lw:∀ d,wrC d→lwC d:=fun d hd=>.inl hd
theorem lwL_td {F:Nat} (h:F<8):(lwL A L)[11+F]?=some (.int .i64 (L.td.at F)):=by rcases lt8 h with rfl | rfl | rfl | rfl | rfl | rfl | rfl | rfl <;> rfl
theorem lwL_nw {F:Nat} (h:F<8):(lwL A L)[3+F]?=some (.int .i64 (L.nw.at F)):=by rcases lt8 h with rfl | rfl | rfl | rfl | rfl | rfl | rfl | rfl <;> rfl
theorem lwL_bo {F:Nat} (h:F<8):(lwL A L)[22+F]?=some (.int .i64 (L.bo.at F)):=by rcases lt8 h with rfl | rfl | rfl | rfl | rfl | rfl | rfl | rfl <;> rfl
theorem lwL_vi {F:Nat} (h:F<8):(lwL A L)[30+F]?=some (.int .i64 (L.vi.at F)):=by rcases lt8 h with rfl | rfl | rfl | rfl | rfl | rfl | rfl | rfl <;> rfl
theorem lwL_sl {F:Nat} (h:F<8):(lwL A L)[38+F]?=some (.int .i64 (A.sl.at F)):=by rcases lt8 h with rfl | rfl | rfl | rfl | rfl | rfl | rfl | rfl <;> rfl
theorem lwL_std {F:Nat} {v:Int} (h:F<8):(lwL A L).set (11+F) (.int .i64 v)=lwL A { L with td:=L.td.set F v }:=by rcases lt8 h with rfl | rfl | rfl | rfl | rfl | rfl | rfl | rfl <;> rfl
theorem lwL_snw {F:Nat} {v:Int} (h:F<8):(lwL A L).set (3+F) (.int .i64 v)=lwL A { L with nw:=L.nw.set F v }:=by rcases lt8 h with rfl | rfl | rfl | rfl | rfl | rfl | rfl | rfl <;> rfl
theorem lwL_sbo {F:Nat} {v:Int} (h:F<8):(lwL A L).set (22+F) (.int .i64 v)=lwL A { L with bo:=L.bo.set F v }:=by rcases lt8 h with rfl | rfl | rfl | rfl | rfl | rfl | rfl | rfl <;> rfl
theorem lwL_svi {F:Nat} {v:Int} (h:F<8):(lwL A L).set (30+F) (.int .i64 v)=lwL A { L with vi:=L.vi.set F v }:=by rcases lt8 h with rfl | rfl | rfl | rfl | rfl | rfl | rfl | rfl <;> rfl
theorem lwL_ssl {F:Nat} {v:Int} (h:F<8):(lwL A L).set (38+F) (.int .i64 v)=lwL { A with sl:=A.sl.set F v } L:=by rcases lt8 h with rfl | rfl | rfl | rfl | rfl | rfl | rfl | rfl <;> rfl
def lstart (L:LwD) (i:Nat):Option LwD:=
 if decide (L.fm.length<80)&&decide (i<8) then some { L with fm:=L.fm++[[]],nw:=L.nw.set i (L.fm.length:Int),td:=L.td.set i 0 } else none
theorem info_es:(Tryz.prog.info? 43).map (fun i=>(i.zero,i.size,i.bytes))=some (some (.slice none 0 0),1,24):=by kernel_rfl
theorem lstart_any (hcl:Cl w o) (h:LwV w o lw A L) {i:Nat} (hs:lstart L i=some L') :
  Calls Tryz.prog 45 #[ptrN lw,.int .i64 (i:Int)] w fun e w'=>e=.returned (.tuple #[])∧∃ o' A',LwV w' o' lw A' L'∧Fm lwC o o' w w':=by
 unfold lstart at hs
 split at hs
 case isFalse=>cases hs
 rename_i hc
 simp only [Bool.and_eq_true,decide_eq_true_eq] at hc
 have HCC:=hI hc
 have HLL:=hI (Option.some.inj hs)
 have H:=hI h
 have HC:=hI hcl
 have f1:(0:Int)≤(i:Int):=by omega
 have f2:(i:Int)<8:=by omega
 have hi8:i<8:=hc.2
 clear hs hcl h hc
 have c2:=H.o.box.box.c 2 _ rfl
 have fx:=H.o.box.box.f
 have A1:=hI (Ext.alloc w (.cells #[.slice none 0 0] 43))
 have b2:=(H.o.ext A1.o).box.box.c 2 _ rfl
 have hl6:L.fm.length≤1000000:=by have:=HCC.o.1;omega
 go_enter Tryz.func45,Tryz.ntmps45
 go_wp2_with (at_builtin;refine wpList_appC rfl _ _ 39 rfl 43 1 24 _ Tryz.underlying39 info_es (by rfl) (by omega) (HC.o.ext A1.o) (H.o.q.fo.ext A1.o) (by rfl) w.heap.size 1 [.slice none 0 0] (by rfl) (by rfl) (fun j u hu=>news_at (w:=w) rfl j u hu) (by simp [Value.oneCell']) hl6 (by omega) (by decide) (fun x=>x=301) rfl ?_)
 intro p4 c4 o4 w4 r4 f4
 have H4q:=(H.o.ext A1.o).q
 have B4:=hI ((H.o.ext A1.o).box.fr f4 (by decide) (by omega))
 have hc4:∀ d,d=301→d≠0:=fun d hd=>by omega
 have HF:=hI f4
 have Q4:Hid (LwQ w4 o4 { A with fp:=p4,fc:=c4,rows:=A.rows++[(none,0)] } { L with fm:=L.fm++[[]] }):=hI (by
  refine ⟨H4q.wr.fr f4 (fun d hd=>by subst hd;unfold wrC;omega),H4q.nn,?_,by simp [H4q.fl],fun j r l a b=>?_,(by obtain ⟨S,hS⟩:=H4q.so;exact ⟨S,hS.fr f4 (by decide) (by omega)⟩),H4q.vo.fr f4 (by decide) (by omega),H4q.co.fr f4 (by decide) (by omega),?_⟩
  ·simp only [fmRow_app _ _ _ _ H4q.fl,List.length_append,List.length_singleton]
   exact r4
  ·by_cases hj:j<L.fm.length
   ·rw [List.getElem?_append_left (by rw [H4q.fl];exact hj)] at a
    rw [List.getElem?_append_left hj] at b
    exact (H4q.fi j r l a b).fr f4 (by omega) (by omega)
   ·rw [List.getElem?_append_right (by rw [H4q.fl];omega),List.getElem?_eq_some_iff] at a
    rw [List.getElem?_append_right (by omega),List.getElem?_eq_some_iff] at b
    obtain ⟨a1,a2⟩:=a
    obtain ⟨b1,b2⟩:=b
    simp at a2 b2
    subst a2
    subst b2
    exact RowC.nil _ _ _ _ _
  ·obtain ⟨m1,m2,m3,m4,m5⟩:=H4q.mx
   refine ⟨by have:=HCC.o.1;simp;omega,m2,m3,m4,fun l hl=>?_⟩
   rcases List.mem_append.1 hl with hl | hl
   ·exact m5 l hl
   ·simp at hl
    subst hl
    simp)
 have b4:=B4.o.box.c 2 _ rfl
 have fx4:=B4.o.box.f
 have F5:=hI (Fm.put (C:=one 300) HF.o.cl B4.o (by decide) rfl 2 (.slice p4 (L.fm.length+1) c4))
 have H5:Hid (LwV (w4.setCell ⟨lw,2,none⟩ (.slice p4 (L.fm.length+1) c4)) o4 lw { A with fp:=p4,fc:=c4,rows:=A.rows++[(none,0)] } { L with fm:=L.fm++[[]] }):=hI (by
  refine ⟨?_,Q4.o.fr F5.o (fun d hd=>by unfold one at hd;subst hd;unfold wrC;omega)⟩
  have:=B4.o.put 2 (.slice p4 (L.fm.length+1) c4)
  rw [show (lwL A L).set 2 (.slice p4 (L.fm.length+1) c4)=lwL { A with fp:=p4,fc:=c4,rows:=A.rows++[(none,0)] } { L with fm:=L.fm++[[]] } by simp] at this
  exact this)
 have M5:=hI (((Fm.ext (C:=lwC) HC.o A1.o).tr (HF.o.mono (fun d hd=>by subst hd;unfold lwC;omega)) lw0).tr (F5.o.mono (fun d hd=>by unfold one at hd;subst hd;unfold lwC;omega)) lw0)
 clear H4q r4 f4 hc4 B4 Q4 F5 HF H HC A1 b2 c2 fx
 go_upto_region 1 with fail
 clear b4 fx4
 generalize w4.setCell ⟨lw,2,none⟩ (.slice p4 (L.fm.length+1) c4)=w5 at *
 obtain ⟨A5,hA5⟩:∃ A5:LwA,A5={ A with fp:=p4,fc:=c4,rows:=A.rows++[(none,0)] }:=⟨_,rfl⟩
 obtain ⟨L5,hL5⟩:∃ L5:LwD,L5={ L with fm:=L.fm++[[]] }:=⟨_,rfl⟩
 rw [← hA5,← hL5] at H5
 have E5:Hid (L5.fm.length=L.fm.length+1):=hI (by rw [hL5];simp)
 have HL5:=hI hL5
 clear hA5 hL5
 have c2:w5.cell? ⟨lw,2,none⟩=some (.slice A5.fp L5.fm.length A5.fc):=H5.o.box.box.c 2 _ rfl
 rw [E5.o] at c2
 have cn:=H5.o.box.box.c (3+i) _ (lwL_nw hi8)
 have ct:=H5.o.box.box.c (11+i) _ (lwL_td hi8)
 have cs:=H5.o.box.box.c (38+i) _ (lwL_sl hi8)
 have fx:=H5.o.box.box.f
 obtain ⟨h6,m6⟩:=H5.o.put M5.o.cl (3+i) (.int .i64 (L.fm.length:Int)) (lwL_snw hi8) (fun q=>⟨q.wr,q.nn,q.fo,q.fl,q.fi,q.so,q.vo,q.co,q.mx⟩)
 obtain ⟨h7,m7⟩:=h6.put m6.cl (11+i) (.int .i64 0) (lwL_std hi8) (fun q=>⟨q.wr,q.nn,q.fo,q.fl,q.fi,q.so,q.vo,q.co,q.mx⟩)
 obtain ⟨h8,m8⟩:=h7.put m7.cl (38+i) (.int .i64 0) (lwL_ssl hi8) (fun q=>⟨q.wr,q.nn,q.fo,q.fl,q.fi,q.so,q.vo,q.co,q.mx⟩)
 have H8:=hI (h8.ext (Ext.drew _))
 have M8:=hI ((((M5.o.tr m6 lw0).tr m7 lw0).tr m8 lw0).tr (Fm.ext m8.cl (Ext.drew _)) lw0)
 clear h6 m6 h7 m7 h8 m8 M5
 have hw1:wrap64 ((L.fm.length:Int)+1-1)=(L.fm.length:Int):=by have:=HCC.o.1;unfold wrap64;omega
 have hw2:wrap64 (((L.fm.length+1:Nat):Int)-1)=(L.fm.length:Int):=by have:=HCC.o.1;unfold wrap64;omega
 go_region
 all_goals
  have e8:({ L5 with nw:=L5.nw.set i (L.fm.length:Int),td:=L5.td.set i 0 }:LwD)=L':=by rw [← HLL.o,HL5.o]
  have HH:=H8.o
  rw [e8] at HH
  refine bodyPost_end (v:=.tuple #[]) (by simp [results,Tryz.results45,go_sem]) rfl ?_
  exact ⟨rfl,o4,_,HH,M8.o⟩
end
section
open Go Go.Sort Go.RowKit
theorem flat_one_set:∀ (L:List (List Value)) (j:Nat) (v:Value),(∀ x ∈ L,x.length=1)→(L.set j [v]).flatten=L.flatten.set j v
 | [],j,v,_=>by simp
 | x::L,0,v,h=>by
  have hx:x.length=1:=h x (by simp)
  obtain ⟨a,rfl⟩:=List.length_eq_one_iff.1 hx
  simp
 | x::L,j+1,v,h=>by
  have hx:x.length=1:=h x (by simp)
  obtain ⟨a,rfl⟩:=List.length_eq_one_iff.1 hx
  simp only [List.set_cons_succ,List.flatten_cons,List.cons_append,List.nil_append]
  rw [flat_one_set L j v (fun y hy=>h y (by simp [hy]))]
theorem OwS.set1 {E:TypeId} {w:World} {base n cap g:Nat} {p:Option Addr} {L:List (List Value)} (h:OwS E 1 w base p n cap L) {j oo:Nat} (hj:j<n) (hp:p=some ⟨g,oo,none⟩) (v:Value):oo=0∧OwS E 1 (w.setCell ⟨g,j,none⟩ v) base p n cap (L.set j [v])∧w.frozen? ⟨g,j,none⟩=false:=by
 obtain ⟨hl,hw,h1,h2⟩:=h
 rcases h2 with ⟨hv,hn⟩ | ⟨g',c,cur,hv,hg,hh,hn,hm,hs,ht⟩
 ·cases hv
  cases hp
 ·subst hp
  cases hv
  refine ⟨rfl,⟨by simp [hl],fun x hx=>?_,?_,.inr ⟨g,cap,cur.setIfInBounds j v,rfl,hg,?_,hn,hm,by simp [hs],?_⟩⟩,?_⟩
  ·rcases List.mem_or_eq_of_mem_set hx with hx | hx
   ·exact hw x hx
   ·subst hx
    rfl
  ·rw [flat_one_set L j v hw]
   simpa using h1
  ·have hlt:g<w.heap.size:=(Array.getElem?_eq_some_iff.1 hh).1
   have he:w.heap[g]=.cells cur E (0,0):=(Array.getElem?_eq_some_iff.1 hh).2
   simp [World.setCell,Array.getElem?_modify,hh]
  ·rw [flat_one_set L j v hw,← ht]
   simp [List.take_set]
  ·simp [World.frozen?,hh]
theorem row_at1 {E:TypeId} {w:World} {o:Ow} {c n cap:Nat} {p:Option Addr} {L:List (List Value)} (h:RowC E 1 w o c p n cap L) {j:Nat} {v:Value} (hj:L[j]?=some [v]):∃ b,p=some ⟨b,0,none⟩∧o b=c∧b<w.heap.size∧w.cell? ⟨b,j,none⟩=some v∧w.frozen? ⟨b,j,none⟩=false∧j<n:=by
 have hjl:j<L.length:=(List.getElem?_eq_some_iff.1 hj).1
 have hjn:j<n:=by rw [← h.row.1];exact hjl
 obtain ⟨b,oo,x,hp,hx,-,hc⟩:=h.row.sl.at j hjn
 obtain ⟨h0,-,hf⟩:=h.row.set1 hjn hp v
 subst h0
 rw [hj] at hx
 cases hx
 have:=hc 0 v rfl
 rw [Nat.zero_add,Nat.mul_one,Nat.add_zero] at this
 exact ⟨b,hp,h.col b (by rw [hp];rfl),(h.row.lt b (by rw [hp];rfl)).2,this,hf,hjn⟩
variable {w w4:World} {o o4:Ow} {lw:Nat} {A A':LwA} {L L':LwD}
theorem LwV.app {c:Nat} (h:LwV w o lw A L) (hc:301≤c∧c<400) (F:Fm (fun d=>d=c) o o4 w w4) (hq:LwQ w4 o4 A' L') (i:Nat) (v:Value) (hb:(lwL A L).set i v=lwL A' L') :
  LwV (w4.setCell ⟨lw,i,none⟩ v) o4 lw A' L'∧Fm lwC o o4 w (w4.setCell ⟨lw,i,none⟩ v):=by
 have B:=h.box.fr F (by decide) (by omega)
 have F2:=Fm.put (C:=one 300) F.cl B (by decide) rfl i v
 have B2:=B.put i v
 rw [hb] at B2
 exact ⟨⟨B2,hq.fr F2 (fun d hd=>by unfold one at hd;subst hd;unfold wrC;omega)⟩,(F.mono (fun d hd=>by unfold lwC;omega)).tr (F2.mono (fun d hd=>by unfold one at hd;subst hd;unfold lwC;omega)) lw0⟩
theorem LwQ.others {c:Nat} (q:LwQ w o A L) (hc:301≤c∧c<400) (F:Fm (fun d=>d=c) o o4 w w4) :
  WrV w4 o4 A.wb A.g L.W∧(c≠301→RowC 43 1 w4 o4 301 A.fp L.fm.length A.fc (fmRow A.rows L.fm))∧(∀ (i:Nat) (r:Option Addr × Nat) (l:List EnD),310+i≠c→A.rows[i]?=some r→L.fm[i]?=some l→RowC 71 7 w4 o4 (310+i) r.1 l.length r.2 (l.map enL))∧(c≠302→∃ S,RowC 116 8 w4 o4 302 A.sp L.sn A.sc S)∧(c≠303→RowC 104 3 w4 o4 303 A.vp L.vs.length A.vc (L.vs.map inL))∧(c≠304→RowC 71 7 w4 o4 304 A.cp L.cs.length A.cc (L.cs.map enL)):=
 ⟨q.wr.fr F (fun d hd=>by subst hd;unfold wrC;omega),fun h=>q.fo.fr F (by decide) (by omega),fun i r l hi a b=>(q.fi i r l a b).fr F (by omega) hi,fun h=>by obtain ⟨S,hS⟩:=q.so;exact ⟨S,hS.fr F (by decide) (by omega)⟩,fun h=>q.vo.fr F (by decide) (by omega),fun h=>q.co.fr F (by decide) (by omega)⟩
theorem LwQ.saw {p:Option Addr} {c:Nat} {S:List (List Value)} (q:LwQ w o A L) (F:Fm (fun d=>d=302) o o4 w w4) (r:RowC 116 8 w4 o4 302 p (L.sn+1) c S) (hn:L.sn<100000):LwQ w4 o4 { A with sp:=p,sc:=c } { L with sn:=L.sn+1 }:=by
 obtain ⟨h1,h2,h3,h4,h5,h6⟩:=q.others (by decide) F
 obtain ⟨m1,m2,m3,m4,m5⟩:=q.mx
 exact ⟨h1,q.nn,h2 (by decide),q.fl,fun i r l a b=>h3 i r l (by have:i<L.fm.length:=(List.getElem?_eq_some_iff.1 b).1;omega) a b,⟨S,r⟩,h5 (by decide),h6 (by decide),m1,hn,m3,m4,m5⟩
theorem LwQ.inst {p:Option Addr} {c:Nat} {x:Int × Int × Int} (q:LwQ w o A L) (F:Fm (fun d=>d=303) o o4 w w4) (r:RowC 104 3 w4 o4 303 p (L.vs.length+1) c (L.vs.map inL++[inL x])) (hn:L.vs.length<1000):LwQ w4 o4 { A with vp:=p,vc:=c } { L with vs:=L.vs++[x] }:=by
 obtain ⟨h1,h2,h3,h4,h5,h6⟩:=q.others (by decide) F
 obtain ⟨m1,m2,m3,m4,m5⟩:=q.mx
 refine ⟨h1,q.nn,h2 (by decide),q.fl,fun i r l a b=>h3 i r l (by have:i<L.fm.length:=(List.getElem?_eq_some_iff.1 b).1;omega) a b,h4 (by decide),by simpa using r,h6 (by decide),m1,m2,?_,m4,m5⟩
 simp
 omega
theorem LwQ.castd {p:Option Addr} {c:Nat} {x:EnD} (q:LwQ w o A L) (F:Fm (fun d=>d=304) o o4 w w4) (r:RowC 71 7 w4 o4 304 p (L.cs.length+1) c (L.cs.map enL++[enL x])) (hn:L.cs.length<1000):LwQ w4 o4 { A with cp:=p,cc:=c } { L with cs:=L.cs++[x] }:=by
 obtain ⟨h1,h2,h3,h4,h5,h6⟩:=q.others (by decide) F
 obtain ⟨m1,m2,m3,m4,m5⟩:=q.mx
 refine ⟨h1,q.nn,h2 (by decide),q.fl,fun i r l a b=>h3 i r l (by have:i<L.fm.length:=(List.getElem?_eq_some_iff.1 b).1;omega) a b,h4 (by decide),h5 (by decide),by simpa using r,m1,m2,m3,?_,m5⟩
 simp
 omega
theorem LwV.firm {j b:Nat} {r0:Option Addr × Nat} {l:List EnD} {e:EnD} {p:Option Addr} {c:Nat} (h:LwV w o lw A L) (hr:A.rows[j]?=some r0) (hl:L.fm[j]?=some l) (hp:A.fp=some ⟨b,0,none⟩) (F:Fm (fun d=>d=310+j) o o4 w w4) (r:RowC 71 7 w4 o4 (310+j) p (l.length+1) c (l.map enL++[enL e])) (hn:l.length<1000) :
  LwV (w4.setCell ⟨b,j,none⟩ (.slice p (l.length+1) c)) o4 lw { A with rows:=A.rows.set j (p,c) } { L with fm:=L.fm.set j (l++[e]) }∧Fm lwC o o4 w (w4.setCell ⟨b,j,none⟩ (.slice p (l.length+1) c)):=by
 have hjl:j<L.fm.length:=(List.getElem?_eq_some_iff.1 hl).1
 obtain ⟨m1,m2,m3,m4,m5⟩:=h.q.mx
 obtain ⟨h1,h2,h3,h4,h5,h6⟩:=h.q.others ⟨by omega,by omega⟩ F
 have B:=h.box.fr F (by decide) (by omega)
 have fo:=h2 (by omega)
 have hv:=fmRow_at A.rows L.fm j r0 l hr hl
 have hb:o4 b=301:=fo.col b (by rw [hp];rfl)
 have hblt:b<w4.heap.size:=(fo.row.lt b (by rw [hp];rfl)).2
 obtain ⟨-,fo2,-⟩:=fo.row.set1 (j:=j) hjl hp (.slice p (l.length+1) c)
 have F2:Fm (fun d=>d=301) o4 o4 w4 (w4.setCell ⟨b,j,none⟩ (.slice p (l.length+1) c)):=Fm.grown F.cl (grown_put (grown_refl w4 (some b)) j _) (fun g hg=>by cases hg;rw [hb];exact ⟨by decide,rfl⟩)
 refine ⟨⟨?_,h1.fr F2 (fun d hd=>by subst hd;unfold wrC;omega),h.q.nn,?_,by simp [h.q.fl],fun i r' l' a b'=>?_,(by obtain ⟨S,hS⟩:=h4 (by omega);exact ⟨S,hS.fr F2 (by decide) (by decide)⟩),(h5 (by omega)).fr F2 (by decide) (by decide),(h6 (by omega)).fr F2 (by decide) (by decide),?_⟩,(F.mono (fun d hd=>by unfold lwC;omega)).tr (F2.mono (fun d hd=>by unfold lwC;omega)) lw0⟩
 ·have:=B.fr F2 (by decide) (by decide)
  rw [show lwL { A with rows:=A.rows.set j (p,c) } { L with fm:=L.fm.set j (l++[e]) }=lwL A L by simp]
  exact this
 ·refine ⟨?_,fo.col⟩
  have e1:(L.fm.set j (l++[e])).length=L.fm.length:=by simp
  have e2:=fmRow_set A.rows L.fm j (p,c) (l++[e])
  have e3:(l++[e]).length=l.length+1:=by simp
  rw [e3] at e2
  show OwS _ 1 _ 0 A.fp (L.fm.set j (l++[e])).length A.fc (fmRow (A.rows.set j (p,c)) (L.fm.set j (l++[e])))
  rw [e1,e2]
  exact fo2
 ·by_cases hij:i=j
  ·subst hij
   have e1:(A.rows.set i (p,c))[i]?=some (p,c):=by
    have:i<A.rows.length:=(List.getElem?_eq_some_iff.1 hr).1
    simp [this]
   have e2:(L.fm.set i (l++[e]))[i]?=some (l++[e]):=by simp [hjl]
   have a:(A.rows.set i (p,c))[i]?=some r':=a
   have b':(L.fm.set i (l++[e]))[i]?=some l':=b'
   rw [e1] at a
   rw [e2] at b'
   cases a
   cases b'
   have:=r.fr F2 (by omega) (by omega)
   simpa using this
  ·have a:(A.rows.set j (p,c))[i]?=some r':=a
   have b':(L.fm.set j (l++[e]))[i]?=some l':=b'
   rw [List.getElem?_set_ne (by omega)] at a b'
   exact (h3 i r' l' (by omega) a b').fr F2 (by omega) (by omega)
 ·refine ⟨by simpa using m1,m2,m3,m4,fun x hx=>?_⟩
  rcases List.mem_or_eq_of_mem_set hx with hx | hx
  ·exact m5 x hx
  ·subst hx
   simp
   omega
end
section
open Go Go.Sort Go.RowKit
def lookS (L:LwD) (e:EnD):Option LwD:=
 if e.lv != 0 then (if decide (L.sn<100000) then some { L with sn:=L.sn+1 } else none) else some L
def lookF (i:Nat) (L:LwD) (e:EnD):Option LwD:=
 if e.lv != 0&&e.od==1 then
  if decide (0≤L.nw.at i∧L.nw.at i<1000) then
   match L.fm[(L.nw.at i).toNat]? with
   | none=>none
   | some l=>if decide (l.length<1000) then some { L with fm:=L.fm.set (L.nw.at i).toNat (l++[e]) } else none
  else none
 else some L
def lookE (i:Nat) (L:LwD) (t:TdD):Option LwD:=
 match lookS L t.e with
 | none=>none
 | some L1=>match lookF i L1 t.e with
  | none=>none
  | some L2=>some { L2 with td:=L2.td.set i (L2.td.at i+1) }
def seenL (L:LwD) (s:NdD):Bool:=L.vs.any fun x=>x.1==s.ls&&x.2.1==s.mb
def lookV (L:LwD) (s:NdD):Option LwD:=
 if inV s then
  if seenL L s then some L
  else if decide (L.vs.length<1000) then some { L with vs:=L.vs++[(s.ls,s.mb,L.W.rl)] } else none
 else some L
def seeN (L:LwD) (i:Nat):Option LwD:=
 match L.W.sl[i-1]? with
 | none=>none
 | some (.dn _ _)=>some L
 | some (.up s)=>
  if decide (0≤L.td.at i∧L.td.at i≤(s.T.length:Int)) then
   match foldO (lookE i) (s.T.drop (L.td.at i).toNat) L with
   | none=>none
   | some L1=>lookV L1 s
  else none
def looksL (L:LwD):Option LwD:=foldO seeN (List.range' 1 L.n) L
theorem lookS_k {L L':LwD} {e:EnD} (h:lookS L e=some L'):L'.W=L.W∧L'.n=L.n∧L'.td=L.td∧L'.nw=L.nw:=by
 unfold lookS at h
 split at h
 ·split at h
  ·cases h
   exact ⟨rfl,rfl,rfl,rfl⟩
  ·cases h
 ·cases h
  exact ⟨rfl,rfl,rfl,rfl⟩
theorem lookF_k {L L':LwD} {e:EnD} {i:Nat} (h:lookF i L e=some L'):L'.W=L.W∧L'.n=L.n∧L'.td=L.td∧L'.nw=L.nw:=by
 unfold lookF at h
 split at h
 ·split at h
  ·split at h
   ·cases h
   ·split at h
    ·cases h
     exact ⟨rfl,rfl,rfl,rfl⟩
    ·cases h
  ·cases h
 ·cases h
  exact ⟨rfl,rfl,rfl,rfl⟩
theorem lookE_k {L L':LwD} {t:TdD} {i:Nat} (h:lookE i L t=some L'):L'.W=L.W∧L'.n=L.n:=by
 unfold lookE at h
 split at h
 ·cases h
 ·rename_i L1 h1
  split at h
  ·cases h
  ·rename_i L2 h2
   cases h
   obtain ⟨a1,a2,-⟩:=lookS_k h1
   obtain ⟨b1,b2,-⟩:=lookF_k h2
   exact ⟨b1.trans a1,b2.trans a2⟩
theorem foldE_k {i:Nat}:∀ (l:List TdD) (L L':LwD),foldO (lookE i) l L=some L'→L'.W=L.W∧L'.n=L.n
 | [],L,L',h=>by cases h;exact ⟨rfl,rfl⟩
 | t::l,L,L',h=>by
  obtain ⟨V,h1,h2⟩:=foldO_cons h
  obtain ⟨a1,a2⟩:=lookE_k h1
  obtain ⟨b1,b2⟩:=foldE_k l V L' h2
  exact ⟨b1.trans a1,b2.trans a2⟩
theorem lookV_k {L L':LwD} {s:NdD} (h:lookV L s=some L'):L'.W=L.W∧L'.n=L.n:=by
 unfold lookV at h
 split at h
 ·split at h
  ·cases h
   exact ⟨rfl,rfl⟩
  ·split at h
   ·cases h
    exact ⟨rfl,rfl⟩
   ·cases h
 ·cases h
  exact ⟨rfl,rfl⟩
theorem seeN_k {L L':LwD} {i:Nat} (h:seeN L i=some L'):L'.W=L.W∧L'.n=L.n:=by
 unfold seeN at h
 split at h
 ·cases h
 ·cases h
  exact ⟨rfl,rfl⟩
 ·split at h
  ·split at h
   ·cases h
   ·rename_i L1 h1
    obtain ⟨a1,a2⟩:=foldE_k _ _ _ h1
    obtain ⟨b1,b2⟩:=lookV_k h
    exact ⟨b1.trans a1,b2.trans a2⟩
  ·cases h
theorem foldN_k:∀ (l:List Nat) (L L':LwD),foldO seeN l L=some L'→L'.W=L.W∧L'.n=L.n
 | [],L,L',h=>by cases h;exact ⟨rfl,rfl⟩
 | t::l,L,L',h=>by
  obtain ⟨V,h1,h2⟩:=foldO_cons h
  obtain ⟨a1,a2⟩:=seeN_k h1
  obtain ⟨b1,b2⟩:=foldN_k l V L' h2
  exact ⟨b1.trans a1,b2.trans a2⟩
theorem looksL_k {L L':LwD} (h:looksL L=some L'):L'.W=L.W∧L'.n=L.n:=foldN_k _ _ _ h
theorem info_saw:(Tryz.prog.info? 116).map (fun i=>(i.zero,i.size,i.bytes))=some (some (.agg (enA zeroE++#[.int .i64 0])),8,72):=by kernel_rfl
theorem info_in:(Tryz.prog.info? 104).map (fun i=>(i.zero,i.size,i.bytes))=some (some (.agg #[.int .i64 0,.int .i64 0,.int .i64 0]),3,24):=by kernel_rfl
variable {w w4:World} {o o4:Ow} {lw:Nat} {A A':LwA} {L L':LwD}
theorem in_at {w:World} {p:Option Addr} {n cap:Nat} {L:List (Int × Int × Int)} (h:SlS 3 w p n cap (L.map inL)) (k:Nat) (hk:k<n) :
  ∃ b oo q,p=some ⟨b,oo,none⟩∧L[k]?=some q∧w.cell? ⟨b,oo+k * 3,none⟩=some (.int .i64 q.1)∧w.cell? ⟨b,oo+k * 3+1,none⟩=some (.int .i64 q.2.1)∧w.cell? ⟨b,oo+k * 3+2,none⟩=some (.int .i64 q.2.2):=by
 obtain ⟨b,oo,x,hp,hx,-,hc⟩:=h.at k hk
 rw [List.getElem?_map] at hx
 obtain ⟨q,hq,rfl⟩:=Option.map_eq_some_iff.1 hx
 exact ⟨b,oo,q,hp,hq,hc 0 _ rfl,hc 1 _ rfl,hc 2 _ rfl⟩
theorem llooks_any (hcl:Cl w o) (h:LwV w o lw A L) (hs:looksL L=some L') :
  Calls Tryz.prog 46 #[ptrN lw] w fun e w'=>e=.returned (.tuple #[])∧∃ o' A',LwV w' o' lw A' L'∧Fm lwC o o' w w':=by
 have H:=hI h
 have HS:=hI hs
 have M0:=hI (Fm.refl (C:=lwC) hcl)
 have hn7:L.n≤7:=by have h1:=h.q.nn;have h2:=h.q.wr.hn;omega
 clear hcl h hs
 go_enter Tryz.func46,Tryz.ntmps46
 go_wp2
 go_loopw [2] (fun i wr=>∃ (a:Nat) (oa:Ow) (Aa:LwA) (La:LwD),1≤a∧a≤L.n+1∧i=.int .i64 (a:Int)∧LwV wr oa lw Aa La∧foldO seeN (List.range' a (L.n+1-a)) La=some L'∧La.n=L.n∧Fm lwC o oa w wr) (fun i _=>L.n+1-(intOf i).toNat)
 case atStart=>exact ⟨1,o,A,L,by omega,by omega,rfl,H.o,by rw [Nat.add_sub_cancel];exact HS.o,rfl,M0.o⟩
 case round=>
  obtain ⟨a,oa,Aa,La,ha1,ha2,rfl,hv,hf,hna,ma⟩:=hrel
  have HA:=hI hv
  have HFA:=hI hf
  have HNA:=hI hna
  have MA:=hI ma
  clear hv hf hna ma H HS M0
  have c1:=HA.o.box.box.c 1 _ rfl
  rw [HNA.o] at c1
  have c0:=HA.o.box.box.c 0 _ rfl
  by_cases hlt2:a≤L.n
  ·have e3:decide ((a:Int)≤(L.n:Int))=true:=decide_eq_true (by omega)
   have hr:=HFA.o
   rw [show L.n+1-a=(L.n+1-(a+1))+1 by omega,List.range'_succ] at hr
   obtain ⟨Lb,ht,hrest⟩:=foldO_cons hr
   have HTK:=hI ht
   have HRB:=hI hrest
   have HAI:Hid (1≤a∧a≤La.W.n):=hI ⟨ha1,by rw [HA.o.q.nn,HNA.o];exact hlt2⟩
   have HNB:Hid (Lb.n=L.n):=hI ((seeN_k ht).2.trans HNA.o)
   have f1:(0:Int)≤(a:Int):=by omega
   have f2:(a:Int)<8:=by omega
   have ha8:a<8:=by omega
   clear hr ht hrest HFA
   go_wp2_with fail
   cases hsl:La.W.sl[a-1]? with
   | none=>
    have:=HTK.o
    unfold seeN at this
    rw [hsl] at this
    cases this
   | some sd=>
   cases sd with
   | dn bt dv=>
    have HSL:=hI hsl
    have HWB:Hid (La=Lb):=hI (by
     have:=HTK.o
     unfold seeN at this
     rw [hsl] at this
     exact Option.some.inj this)
    clear hsl
    refine (wnode_dn HA.o.q.wr HAI.o HSL.o).mono ?_
    rintro e w9 ⟨rfl,rfl⟩
    rw [HWB.o] at HA
    go_wp2
    go_roundw
    case rel=>exact ⟨a+1,oa,Aa,Lb,by omega,by omega,by go_num,HA.o,HRB.o,HNB.o,MA.o⟩
    case measure=>simp [intOf];omega
   | up s=>
    have HSL:=hI hsl
    have HSX:=HTK.o
    unfold seeN at HSX
    rw [hsl] at HSX
    simp only at HSX
    split at HSX
    case isFalse=>cases HSX
    rename_i htd
    have HTD:=hI (of_decide_eq_true htd)
    split at HSX
    case h_1=>cases HSX
    rename_i L1 hf1
    have HF1:=hI hf1
    have HV1:=hI HSX
    have HK1:=hI (foldE_k _ _ _ hf1)
    clear HSX hsl htd hf1 HTK
    refine (wnode_up HA.o.q.wr HAI.o HSL.o).mono ?_
    rintro e w9 ⟨xx,cc,AA,rfl,h1,h2,nd,cl,hid,hn,rfl⟩
    have ND:=hI nd
    clear h1 h2 nd cl hid hn c0 c1
    go_wp2_with fail
    refine (ntold_any ND.o).mono ?_
    rintro e w9 ⟨pt,ct,rfl,ow9,x9⟩
    have T9:=hI (SlC.fresh ow9 MA.o.cl (Nat.le_refl _))
    have H9:=hI (HA.o.ext x9)
    have M9:=hI (MA.o.tr (Fm.ext MA.o.cl x9) lw0)
    have N9:=hI (ND.o.ext x9)
    clear ow9 x9 ND HA MA
    have htl:s.T.length≤9223372036854775807:=Nat.le_trans T9.o.sl.le T9.o.sl.max
    obtain ⟨jj,hjj⟩:∃ jj:Nat,La.td.at a=(jj:Int):=⟨(La.td.at a).toNat,by have:=HTD.o.1;omega⟩
    have HJ:=hI hjj
    have HJL:Hid (jj≤s.T.length):=hI (by have:=HTD.o.2;omega)
    have HF0:Hid (foldO (lookE a) (s.T.drop jj) La=some L1):=hI (by
     have:=HF1.o
     rw [hjj] at this
     simpa using this)
    clear hjj HTD HF1
    go_wp2
    go_loopw [] (fun wr=>∃ (j:Nat) (oj:Ow) (Aj:LwA) (Lj:LwD),j≤s.T.length∧Lj.td.at a=(j:Int)∧LwV wr oj lw Aj Lj∧SlC 8 wr oj pt s.T.length ct (s.T.map tdL)∧NodeP wr oj (32 * a) xx Aa.wb (1+a * 4+2) AA s∧foldO (lookE a) (s.T.drop j) Lj=some L1∧(Lj.n=L.n∧Lj.W=La.W)∧Fm lwC o oj w wr) (fun wr=>s.T.length-(cellI wr ⟨lw,11+a,none⟩).toNat)
    case atStart=>exact ⟨jj,oa,Aa,La,HJL.o,HJ.o,H9.o,T9.o,N9.o,HF0.o,⟨HNA.o,rfl⟩,M9.o⟩
    case round=>
     obtain ⟨j,oj,Aj,Lj,hj,htd,hv,hsl,hnd,hf,hk,mj⟩:=hrel
     have HJ:=hI hv
     have HTD:=hI htd
     have TJ:=hI hsl
     have NJ:=hI hnd
     have FJ:=hI hf
     have KJ:=hI hk
     have MJ:=hI mj
     have c11:wr.cell? ⟨lw,11+a,none⟩=some (.int .i64 (j:Int)):=by rw [← htd];exact hv.box.box.c (11+a) _ (lwL_td ha8)
     have HCI:Hid (cellI wr ⟨lw,11+a,none⟩=(j:Int)):=hI (by unfold cellI;rw [c11])
     clear hv htd hsl hnd hf hk mj H9 T9 N9 HF0 M9
     by_cases hlt:j<s.T.length
     ·have e4:decide ((j:Int)<(s.T.length:Int))=true:=decide_eq_true (by omega)
      obtain ⟨b,oo,td,hp,hx,q0,q1,q2,q3,q4,q5,q6,q7⟩:=td_at TJ.o.sl j hlt
      have hdrop:s.T.drop j=td::s.T.drop (j+1):=by
       rw [List.drop_eq_getElem_cons hlt]
       congr 1
       rw [List.getElem?_eq_getElem hlt] at hx
       exact Option.some.inj hx
      obtain ⟨Lk,hsk,hrk⟩:=foldO_cons (by rw [← hdrop];exact FJ.o)
      have HSK:=hI hsk
      have HRK:=hI hrk
      have HKK:=hI (lookE_k hsk)
      clear hsk hrk hdrop hx FJ
      subst hp
      obtain ⟨xa,⟨f1,f2,f3,f4,f5,f6,dat⟩⟩:=td
      simp only at q1 q2 q3 q4 q5 q6 q7
      have hj64:(j:Int)<9223372036854775807:=by omega
      go_upto_region 9 with fail
      change Code.wp _ _ _ _ (wr.alloc (.cells (enA ⟨f1,f2,f3,f4,f5,f6,dat⟩) 71))
      have EB:=hI (BoxC.loose MJ.o.cl (enA ⟨f1,f2,f3,f4,f5,f6,dat⟩) (enL ⟨f1,f2,f3,f4,f5,f6,dat⟩) 71 rfl)
      have A1:=hI (Ext.alloc wr (.cells (enA ⟨f1,f2,f3,f4,f5,f6,dat⟩) 71))
      replace HJ:=hI (HJ.o.ext A1.o)
      replace TJ:=hI (TJ.o.ext A1.o)
      replace NJ:=hI (NJ.o.ext A1.o)
      replace MJ:=hI (MJ.o.tr (Fm.ext MJ.o.cl A1.o) lw0)
      clear A1 q0 q1 q2 q3 q4 q5 q6 q7 c11
      generalize wr.alloc (.cells (enA ⟨f1,f2,f3,f4,f5,f6,dat⟩) 71)=w5 at *
      generalize wr.heap.size=eb at *
      have HE:=HSK.o
      unfold lookE at HE
      simp only at HE
      split at HE
      case h_1=>cases HE
      rename_i LS hls
      split at HE
      case h_1=>cases HE
      rename_i LF hlf
      have HLS:=hI hls
      have HLF:=hI hlf
      have HLK:=hI (Option.some.inj HE)
      have HKS:=hI (lookS_k hls)
      have HKF:=hI (lookF_k hlf)
      clear HE hls hlf HSK
      have d3:=EB.o.box.c 3 _ rfl
      have d4:=EB.o.box.c 4 _ rfl
      try simp only at d3 d4
      by_cases hlv:f5=0
      ·have g1:(f5 != 0)=false:=by simpa using hlv
       have HS1:Hid (Lj=LS):=hI (by
        have:=HLS.o
        unfold lookS at this
        rw [if_neg (by simp only [g1];simp)] at this
        exact Option.some.inj this)
       have HF1:Hid (LS=LF):=hI (by
        have:=HLF.o
        unfold lookF at this
        rw [if_neg (by simp only [g1];simp)] at this
        exact Option.some.inj this)
       clear hlv
       rw [HS1.o,HF1.o] at HJ HTD
       go_upto_region 7 with fail
       clear d3 d4
       obtain ⟨W20,hW⟩:∃ W20,W20=w5.drew:=⟨_,rfl⟩
       have X20:Hid (Ext w5 W20):=hI (by rw [hW];exact Ext.drew w5)
       replace HJ:=hI (HJ.o.ext X20.o)
       replace TJ:=hI (TJ.o.ext X20.o)
       replace NJ:=hI (NJ.o.ext X20.o)
       have g11:∀ d os,(grow (redrawn W20 d) os).cell? ⟨lw,11+a,none⟩=some (.int .i64 (j:Int)):=fun d os=>Ext.cell (Ext.reg W20 d os) (by rw [← HTD.o];exact HJ.o.box.box.c (11+a) _ (lwL_td ha8))
       refine att [0,1,2,3,4,5,6,7,8,9] [10] ?_
       rw [← hW]
       clear hW
       repeat ((first|refine aqq fun K hK=>?_|refine akk fun K hK=>?_);go_big_quiet_op;refine hK _ ?_;clear hK K)
       refine ra_nil ?_
       have c11:W20.cell? ⟨lw,11+a,none⟩=some (.int .i64 (j:Int)):=by rw [← HTD.o];exact HJ.o.box.box.c (11+a) _ (lwL_td ha8)
       have fz:=HJ.o.box.box.f (11+a)
       have hw1:wrap64 ((j:Int)+1)=(j:Int)+1:=by unfold wrap64;omega
       refine too fun K hK=>?_
       go_simp
       obtain ⟨h21,m21⟩:=HJ.o.put (MJ.o.cl.ext X20.o) (11+a) (.int .i64 ((j:Int)+1)) (lwL_std ha8) (fun q=>⟨q.wr,q.nn,q.fo,q.fl,q.fi,q.so,q.vo,q.co,q.mx⟩)
       have H21:=hI h21
       have T21:=hI (TJ.o.fr ((Fm.put (C:=one 300) (MJ.o.cl.ext X20.o) HJ.o.box (by decide) rfl (11+a) (.int .i64 ((j:Int)+1)))) (by unfold one;omega))
       have N21:=hI (NJ.o.fr (by omega) ((Fm.put (C:=one 300) (MJ.o.cl.ext X20.o) HJ.o.box (by decide) rfl (11+a) (.int .i64 ((j:Int)+1)))) (by unfold one;omega) (fun d hd=>by unfold one at hd;unfold ndI;omega))
       have M21:=hI ((MJ.o.tr (Fm.ext MJ.o.cl X20.o) lw0).tr m21 lw0)
       clear h21 m21 c11 fz hw1 g11 X20 HJ TJ NJ MJ
       refine hK _ _ ?_
       clear hK K
       refine rt_nil ?_
       generalize W20.setCell ⟨lw,11+a,none⟩ (.int .i64 ((j:Int)+1))=w21 at *
       have e21:({ LF with td:=LF.td.set a ((j:Int)+1) }:LwD)=Lk:=by rw [← HLK.o,HTD.o]
       rw [e21] at H21
       have HTK:Hid (Lk.td.at a=((j+1:Nat):Int)):=hI (by rw [← e21];show (LF.td.set a ((j:Int)+1)).at a=_;rw [E8.set_at _ ha8,if_pos rfl];rfl)
       clear e21
       go_wp2
       go_roundw
       case rel=>exact ⟨j+1,oj,Aj,Lk,by omega,HTK.o,H21.o,T21.o,N21.o,HRK.o,⟨HKK.o.2.trans KJ.o.1,HKK.o.1.trans KJ.o.2⟩,M21.o⟩
       case measure=>
        have h1:=H21.o.box.box.c (11+a) _ (lwL_td ha8)
        rw [HTK.o] at h1
        have h4:=HCI.o
        unfold cellI at h4
        simp only [cellI,h1]
        rw [h4]
        omega
      ·have g1:(f5 != 0)=true:=by simpa using hlv
       clear hlv
       go_upto_region 10 with fail
       have HSN:Hid (Lj.sn<100000∧({ Lj with sn:=Lj.sn+1 }:LwD)=LS):=hI (by
        have:=HLS.o
        unfold lookS at this
        rw [if_pos (by simp only [g1])] at this
        split at this
        ·rename_i h1
         exact ⟨of_decide_eq_true h1,Option.some.inj this⟩
        ·cases this)
       clear d3 d4
       obtain ⟨W6,hW⟩:∃ W6,W6=w5.drew:=⟨_,rfl⟩
       have X6:Hid (Ext w5 W6):=hI (by rw [hW];exact Ext.drew w5)
       replace HJ:=hI (HJ.o.ext X6.o)
       replace TJ:=hI (TJ.o.ext X6.o)
       replace NJ:=hI (NJ.o.ext X6.o)
       replace EB:=hI (EB.o.ext X6.o)
       have r19:=fun (qq:Wrap (CL [(⟨lw,19,none⟩,.slice Aj.sp Lj.sn Aj.sc),(⟨lw,0,none⟩,ptrN Aj.wb),(⟨eb,0,none⟩,.int .i64 f1),(⟨eb,1,none⟩,.int .i64 f2),(⟨eb,2,none⟩,.int .i64 f3),(⟨eb,3,none⟩,.int .i64 f4),(⟨eb,4,none⟩,.int .i64 f5),(⟨eb,5,none⟩,.int .i64 f6),(⟨eb,6,none⟩,.string dat)]))=>(qq.h.1:qq.w.cell? ⟨lw,19,none⟩=some (.slice Aj.sp Lj.sn Aj.sc))
       have r0:=fun (qq:Wrap (CL [(⟨lw,19,none⟩,.slice Aj.sp Lj.sn Aj.sc),(⟨lw,0,none⟩,ptrN Aj.wb),(⟨eb,0,none⟩,.int .i64 f1),(⟨eb,1,none⟩,.int .i64 f2),(⟨eb,2,none⟩,.int .i64 f3),(⟨eb,3,none⟩,.int .i64 f4),(⟨eb,4,none⟩,.int .i64 f5),(⟨eb,5,none⟩,.int .i64 f6),(⟨eb,6,none⟩,.string dat)]))=>(qq.h.2.1:qq.w.cell? ⟨lw,0,none⟩=some (ptrN Aj.wb))
       have re0:=fun (qq:Wrap (CL [(⟨lw,19,none⟩,.slice Aj.sp Lj.sn Aj.sc),(⟨lw,0,none⟩,ptrN Aj.wb),(⟨eb,0,none⟩,.int .i64 f1),(⟨eb,1,none⟩,.int .i64 f2),(⟨eb,2,none⟩,.int .i64 f3),(⟨eb,3,none⟩,.int .i64 f4),(⟨eb,4,none⟩,.int .i64 f5),(⟨eb,5,none⟩,.int .i64 f6),(⟨eb,6,none⟩,.string dat)]))=>(qq.h.2.2.1:qq.w.cell? ⟨eb,0,none⟩=some (.int .i64 f1))
       have re1:=fun (qq:Wrap (CL [(⟨lw,19,none⟩,.slice Aj.sp Lj.sn Aj.sc),(⟨lw,0,none⟩,ptrN Aj.wb),(⟨eb,0,none⟩,.int .i64 f1),(⟨eb,1,none⟩,.int .i64 f2),(⟨eb,2,none⟩,.int .i64 f3),(⟨eb,3,none⟩,.int .i64 f4),(⟨eb,4,none⟩,.int .i64 f5),(⟨eb,5,none⟩,.int .i64 f6),(⟨eb,6,none⟩,.string dat)]))=>(qq.h.2.2.2.1:qq.w.cell? ⟨eb,1,none⟩=some (.int .i64 f2))
       have re2:=fun (qq:Wrap (CL [(⟨lw,19,none⟩,.slice Aj.sp Lj.sn Aj.sc),(⟨lw,0,none⟩,ptrN Aj.wb),(⟨eb,0,none⟩,.int .i64 f1),(⟨eb,1,none⟩,.int .i64 f2),(⟨eb,2,none⟩,.int .i64 f3),(⟨eb,3,none⟩,.int .i64 f4),(⟨eb,4,none⟩,.int .i64 f5),(⟨eb,5,none⟩,.int .i64 f6),(⟨eb,6,none⟩,.string dat)]))=>(qq.h.2.2.2.2.1:qq.w.cell? ⟨eb,2,none⟩=some (.int .i64 f3))
       have re3:=fun (qq:Wrap (CL [(⟨lw,19,none⟩,.slice Aj.sp Lj.sn Aj.sc),(⟨lw,0,none⟩,ptrN Aj.wb),(⟨eb,0,none⟩,.int .i64 f1),(⟨eb,1,none⟩,.int .i64 f2),(⟨eb,2,none⟩,.int .i64 f3),(⟨eb,3,none⟩,.int .i64 f4),(⟨eb,4,none⟩,.int .i64 f5),(⟨eb,5,none⟩,.int .i64 f6),(⟨eb,6,none⟩,.string dat)]))=>(qq.h.2.2.2.2.2.1:qq.w.cell? ⟨eb,3,none⟩=some (.int .i64 f4))
       have re4:=fun (qq:Wrap (CL [(⟨lw,19,none⟩,.slice Aj.sp Lj.sn Aj.sc),(⟨lw,0,none⟩,ptrN Aj.wb),(⟨eb,0,none⟩,.int .i64 f1),(⟨eb,1,none⟩,.int .i64 f2),(⟨eb,2,none⟩,.int .i64 f3),(⟨eb,3,none⟩,.int .i64 f4),(⟨eb,4,none⟩,.int .i64 f5),(⟨eb,5,none⟩,.int .i64 f6),(⟨eb,6,none⟩,.string dat)]))=>(qq.h.2.2.2.2.2.2.1:qq.w.cell? ⟨eb,4,none⟩=some (.int .i64 f5))
       have re5:=fun (qq:Wrap (CL [(⟨lw,19,none⟩,.slice Aj.sp Lj.sn Aj.sc),(⟨lw,0,none⟩,ptrN Aj.wb),(⟨eb,0,none⟩,.int .i64 f1),(⟨eb,1,none⟩,.int .i64 f2),(⟨eb,2,none⟩,.int .i64 f3),(⟨eb,3,none⟩,.int .i64 f4),(⟨eb,4,none⟩,.int .i64 f5),(⟨eb,5,none⟩,.int .i64 f6),(⟨eb,6,none⟩,.string dat)]))=>(qq.h.2.2.2.2.2.2.2.1:qq.w.cell? ⟨eb,5,none⟩=some (.int .i64 f6))
       have re6:=fun (qq:Wrap (CL [(⟨lw,19,none⟩,.slice Aj.sp Lj.sn Aj.sc),(⟨lw,0,none⟩,ptrN Aj.wb),(⟨eb,0,none⟩,.int .i64 f1),(⟨eb,1,none⟩,.int .i64 f2),(⟨eb,2,none⟩,.int .i64 f3),(⟨eb,3,none⟩,.int .i64 f4),(⟨eb,4,none⟩,.int .i64 f5),(⟨eb,5,none⟩,.int .i64 f6),(⟨eb,6,none⟩,.string dat)]))=>(qq.h.2.2.2.2.2.2.2.2.1:qq.w.cell? ⟨eb,6,none⟩=some (.string dat))
       refine htt [0,1,2,3,4,5,6,7,8,9,10,11,12,13,14,15] 16 (CL [(⟨lw,19,none⟩,.slice Aj.sp Lj.sn Aj.sc),(⟨lw,0,none⟩,ptrN Aj.wb),(⟨eb,0,none⟩,.int .i64 f1),(⟨eb,1,none⟩,.int .i64 f2),(⟨eb,2,none⟩,.int .i64 f3),(⟨eb,3,none⟩,.int .i64 f4),(⟨eb,4,none⟩,.int .i64 f5),(⟨eb,5,none⟩,.int .i64 f6),(⟨eb,6,none⟩,.string dat)]) (by rw [← hW];exact ⟨HJ.o.box.box.c 19 _ rfl,HJ.o.box.box.c 0 _ rfl,EB.o.box.c 0 _ rfl,EB.o.box.c 1 _ rfl,EB.o.box.c 2 _ rfl,EB.o.box.c 3 _ rfl,EB.o.box.c 4 _ rfl,EB.o.box.c 5 _ rfl,EB.o.box.c 6 _ rfl,trivial⟩) (fun _=>?_)
       rw [← hW]
       clear hW
       repeat ((first|refine hqq fun K hK=>?_;go_big_quiet_op|refine hss fun K hK=>?_;go_big_quiet_op|refine hkk fun K hK=>?_;go_big_quiet_op);refine hK _ ?_;clear hK K)
       replace MJ:=hI (MJ.o.tr (Fm.ext MJ.o.cl X6.o) lw0)
       clear X6
       refine hcc fun K hK=>?_
       go_simp
       refine (wreal_any HJ.o.q.wr).mono ?_
       rintro e w7 ⟨rfl,rfl⟩
       refine hK (CL [(⟨lw,19,none⟩,.slice Aj.sp Lj.sn Aj.sc),(⟨lw,0,none⟩,ptrN Aj.wb),(⟨eb,0,none⟩,.int .i64 f1),(⟨eb,1,none⟩,.int .i64 f2),(⟨eb,2,none⟩,.int .i64 f3),(⟨eb,3,none⟩,.int .i64 f4),(⟨eb,4,none⟩,.int .i64 f5),(⟨eb,5,none⟩,.int .i64 f6),(⟨eb,6,none⟩,.string dat)]) _ _ (fun _ h=>h) ⟨HJ.o.box.box.c 19 _ rfl,HJ.o.box.box.c 0 _ rfl,EB.o.box.c 0 _ rfl,EB.o.box.c 1 _ rfl,EB.o.box.c 2 _ rfl,EB.o.box.c 3 _ rfl,EB.o.box.c 4 _ rfl,EB.o.box.c 5 _ rfl,EB.o.box.c 6 _ rfl,trivial⟩ (fun _=>?_)
       clear hK K
       repeat ((first|refine hqq fun K hK=>?_;go_big_quiet_op|refine hss fun K hK=>?_;go_big_quiet_op|refine hkk fun K hK=>?_;go_big_quiet_op);refine hK _ ?_;clear hK K)
       refine hcc fun K hK=>?_
       go_simp
       refine hK (CL [(⟨lw,19,none⟩,.slice Aj.sp Lj.sn Aj.sc),(⟨lw,0,none⟩,ptrN Aj.wb),(⟨eb,0,none⟩,.int .i64 f1),(⟨eb,1,none⟩,.int .i64 f2),(⟨eb,2,none⟩,.int .i64 f3),(⟨eb,3,none⟩,.int .i64 f4),(⟨eb,4,none⟩,.int .i64 f5),(⟨eb,5,none⟩,.int .i64 f6),(⟨eb,6,none⟩,.string dat)]) _ _ (fun _ h=>h) ⟨HJ.o.box.box.c 19 _ rfl,HJ.o.box.box.c 0 _ rfl,EB.o.box.c 0 _ rfl,EB.o.box.c 1 _ rfl,EB.o.box.c 2 _ rfl,EB.o.box.c 3 _ rfl,EB.o.box.c 4 _ rfl,EB.o.box.c 5 _ rfl,EB.o.box.c 6 _ rfl,trivial⟩ (fun _=>?_)
       clear hK K
       repeat ((first|refine hqq fun K hK=>?_;go_big_quiet_op|refine hss fun K hK=>?_;go_big_quiet_op|refine hkk fun K hK=>?_;go_big_quiet_op);refine hK _ ?_;clear hK K)
       refine hcc fun K hK=>?_
       go_simp
       have A13:=hI (Ext.alloc W6 (.cells #[.int .i64 f1,.int .i64 f2,.int .i64 f3,.int .i64 f4,.int .i64 f5,.int .i64 f6,.string dat,.int .i64 Lj.W.rl] 116))
       replace HJ:=hI (HJ.o.ext A13.o)
       replace TJ:=hI (TJ.o.ext A13.o)
       replace NJ:=hI (NJ.o.ext A13.o)
       replace EB:=hI (EB.o.ext A13.o)
       replace MJ:=hI (MJ.o.tr (Fm.ext MJ.o.cl A13.o) lw0)
       refine hK (CL [(⟨lw,19,none⟩,.slice Aj.sp Lj.sn Aj.sc),(⟨lw,0,none⟩,ptrN Aj.wb),(⟨eb,0,none⟩,.int .i64 f1),(⟨eb,1,none⟩,.int .i64 f2),(⟨eb,2,none⟩,.int .i64 f3),(⟨eb,3,none⟩,.int .i64 f4),(⟨eb,4,none⟩,.int .i64 f5),(⟨eb,5,none⟩,.int .i64 f6),(⟨eb,6,none⟩,.string dat)]) _ _ (fun _ h=>h) ⟨HJ.o.box.box.c 19 _ rfl,HJ.o.box.box.c 0 _ rfl,EB.o.box.c 0 _ rfl,EB.o.box.c 1 _ rfl,EB.o.box.c 2 _ rfl,EB.o.box.c 3 _ rfl,EB.o.box.c 4 _ rfl,EB.o.box.c 5 _ rfl,EB.o.box.c 6 _ rfl,trivial⟩ (fun _=>?_)
       clear hK K
       repeat ((first|refine hqq fun K hK=>?_;go_big_quiet_op|refine hss fun K hK=>?_;go_big_quiet_op|refine hkk fun K hK=>?_;go_big_quiet_op);refine hK _ ?_;clear hK K)
       have hl6:Lj.sn≤1000000:=by have:=HSN.o.1;omega
       obtain ⟨SS,hSS⟩:=HJ.o.q.so
       refine hcc fun K hK=>?_
       refine oper_appC (by rfl) _ _ _ (by rfl) 116 8 72 _ Tryz.underlying41 info_saw (by rfl) (by omega) MJ.o.cl hSS (by rfl) W6.heap.size 1 [.int .i64 f1,.int .i64 f2,.int .i64 f3,.int .i64 f4,.int .i64 f5,.int .i64 f6,.string dat,.int .i64 Lj.W.rl] (by rfl) (by rfl) (fun j u hu=>news_at (w:=W6) rfl j u hu) (by simp [Value.oneCell']) hl6 (by omega) (by decide) (fun d=>d=302) rfl ?_
       intro p14 c14 o14 w14 r14 f14
       have T14:=hI (TJ.o.fr f14 (by omega))
       have N14:=hI (NJ.o.fr (by omega) f14 (by omega) (fun d hd=>by unfold ndI;omega))
       have E14:=hI (EB.o.fr f14 (by decide) (by omega))
       have B14:=hI (HJ.o.box.fr f14 (by decide) (by omega))
       have b19:=B14.o.box.c 19 _ rfl
       have f19:=B14.o.box.f 19
       obtain ⟨h15,m15⟩:=HJ.o.app (A':={ Aj with sp:=p14,sc:=c14 }) (L':={ Lj with sn:=Lj.sn+1 }) ⟨by decide,by decide⟩ f14 (HJ.o.q.saw f14 r14 HSN.o.1) 19 (.slice p14 (Lj.sn+1) c14) rfl
       have F15:=hI (Fm.put (C:=one 300) f14.cl B14.o (by decide) rfl 19 (.slice p14 (Lj.sn+1) c14))
       rw [HSN.o.2] at h15
       have H15:=hI h15
       have M15:=hI (MJ.o.tr m15 lw0)
       have T15:=hI (T14.o.fr F15.o (by unfold one;omega))
       have N15:=hI (N14.o.fr (by omega) F15.o (by unfold one;omega) (fun d hd=>by unfold one at hd;unfold ndI;omega))
       have E15:=hI (E14.o.fr F15.o (by decide) (by unfold one;omega))
       refine hK (CL [(⟨lw,19,none⟩,.slice Aj.sp Lj.sn Aj.sc),(⟨lw,0,none⟩,ptrN Aj.wb),(⟨eb,0,none⟩,.int .i64 f1),(⟨eb,1,none⟩,.int .i64 f2),(⟨eb,2,none⟩,.int .i64 f3),(⟨eb,3,none⟩,.int .i64 f4),(⟨eb,4,none⟩,.int .i64 f5),(⟨eb,5,none⟩,.int .i64 f6),(⟨eb,6,none⟩,.string dat)]) _ _ (fun _ h=>h) ⟨B14.o.box.c 19 _ rfl,B14.o.box.c 0 _ rfl,E14.o.box.c 0 _ rfl,E14.o.box.c 1 _ rfl,E14.o.box.c 2 _ rfl,E14.o.box.c 3 _ rfl,E14.o.box.c 4 _ rfl,E14.o.box.c 5 _ rfl,E14.o.box.c 6 _ rfl,trivial⟩ (fun _=>?_)
       clear hK K
       go_simp
       repeat ((first|refine hqq fun K hK=>?_;go_big_quiet_op|refine hss fun K hK=>?_;go_big_quiet_op|refine hkk fun K hK=>?_;go_big_quiet_op);refine hK _ ?_;clear hK K)
       refine hll fun K hK=>?_
       go_simp
       refine hK _ _ ?_
       clear hK K b19 f19 h15 m15 r14 f14 hSS HJ TJ NJ EB MJ T14 N14 E14 B14 F15 r19 r0 re0 re1 re2 re3 re4 re5 re6 A13
       generalize w14.setCell ⟨lw,19,none⟩ (.slice p14 (Lj.sn+1) c14)=w15 at *
       have HJ:=H15
       have TJ:=T15
       have NJ:=N15
       have EB:=E15
       have MJ:=M15
       replace HTD:Hid (LS.td.at a=(j:Int)):=hI (by rw [HKS.o.2.2.1];exact HTD.o)
       clear H15 T15 N15 E15 M15
       have d3:=EB.o.box.c 3 _ rfl
       have d4:=EB.o.box.c 4 _ rfl
       try simp only at d3 d4
       by_cases hod:f4=1
       ·have g2:(f4==1)=true:=by simpa using hod
        clear hod
        go_upto_region 12 with fail
        clear d3 d4
        obtain ⟨Aq,hAq⟩:∃ Aq:LwA,Aq={ Aj with sp:=p14,sc:=c14 }:=⟨_,rfl⟩
        rw [← hAq] at HJ
        clear hAq
        have HLX:=HLF.o
        unfold lookF at HLX
        rw [if_pos (by simp only [g1,g2];rfl)] at HLX
        split at HLX
        case isFalse=>cases HLX
        rename_i hnw
        have HNW:=hI (of_decide_eq_true hnw)
        obtain ⟨jn,hjn⟩:∃ jn:Nat,LS.nw.at a=(jn:Int):=⟨(LS.nw.at a).toNat,by have:=HNW.o.1;omega⟩
        have HJN:=hI hjn
        rw [hjn,Int.toNat_natCast] at HLX
        split at HLX
        case h_1=>cases HLX
        rename_i ll hll
        split at HLX
        case isFalse=>cases HLX
        rename_i hl9
        have HL9:=hI (of_decide_eq_true hl9)
        have HLL:=hI hll
        have HLFE:=hI (Option.some.inj HLX)
        clear HLX hnw hjn hll hl9
        obtain ⟨rr,hrr⟩:∃ rr,Aq.rows[jn]?=some rr:=⟨_,List.getElem?_eq_getElem (by rw [HJ.o.q.fl];exact (List.getElem?_eq_some_iff.1 HLL.o).1)⟩
        have HRR:=hI hrr
        obtain ⟨fb,hfp,-,-,-,-,-⟩:=row_at1 HJ.o.q.fo (fmRow_at _ _ _ _ _ hrr HLL.o)
        have HFP:=hI hfp
        have FBC:∀ {w':World} {o':Ow},LwV w' o' lw Aq LS→w'.cell? ⟨fb,jn,none⟩=some (.slice rr.1 ll.length rr.2):=fun h=>by
         obtain ⟨b',h1,-,-,h2,-,-⟩:=row_at1 h.q.fo (fmRow_at _ _ _ _ _ HRR.o HLL.o)
         rw [HFP.o] at h1
         cases h1
         exact h2
        clear hrr hfp
        have f5':(0:Int)≤(jn:Int):=by omega
        have f6':(jn:Int)<(LS.fm.length:Int):=by have:=(List.getElem?_eq_some_iff.1 HLL.o).1;omega
        obtain ⟨W16,hW⟩:∃ W16,W16=w15.drew:=⟨_,rfl⟩
        have X16:Hid (Ext w15 W16):=hI (by rw [hW];exact Ext.drew w15)
        replace HJ:=hI (HJ.o.ext X16.o)
        replace TJ:=hI (TJ.o.ext X16.o)
        replace NJ:=hI (NJ.o.ext X16.o)
        replace EB:=hI (EB.o.ext X16.o)
        have r2:=fun (qq:Wrap (CL [(⟨lw,2,none⟩,.slice (some ⟨fb,0,none⟩) LS.fm.length Aq.fc),(⟨lw,3+a,none⟩,.int .i64 (jn:Int)),(⟨fb,jn,none⟩,.slice rr.1 ll.length rr.2),(⟨eb,0,none⟩,.int .i64 f1),(⟨eb,1,none⟩,.int .i64 f2),(⟨eb,2,none⟩,.int .i64 f3),(⟨eb,3,none⟩,.int .i64 f4),(⟨eb,4,none⟩,.int .i64 f5),(⟨eb,5,none⟩,.int .i64 f6),(⟨eb,6,none⟩,.string dat)]))=>(qq.h.1:qq.w.cell? ⟨lw,2,none⟩=some (.slice (some ⟨fb,0,none⟩) LS.fm.length Aq.fc))
        have r3:=fun (qq:Wrap (CL [(⟨lw,2,none⟩,.slice (some ⟨fb,0,none⟩) LS.fm.length Aq.fc),(⟨lw,3+a,none⟩,.int .i64 (jn:Int)),(⟨fb,jn,none⟩,.slice rr.1 ll.length rr.2),(⟨eb,0,none⟩,.int .i64 f1),(⟨eb,1,none⟩,.int .i64 f2),(⟨eb,2,none⟩,.int .i64 f3),(⟨eb,3,none⟩,.int .i64 f4),(⟨eb,4,none⟩,.int .i64 f5),(⟨eb,5,none⟩,.int .i64 f6),(⟨eb,6,none⟩,.string dat)]))=>(qq.h.2.1:qq.w.cell? ⟨lw,3+a,none⟩=some (.int .i64 (jn:Int)))
        have rf:=fun (qq:Wrap (CL [(⟨lw,2,none⟩,.slice (some ⟨fb,0,none⟩) LS.fm.length Aq.fc),(⟨lw,3+a,none⟩,.int .i64 (jn:Int)),(⟨fb,jn,none⟩,.slice rr.1 ll.length rr.2),(⟨eb,0,none⟩,.int .i64 f1),(⟨eb,1,none⟩,.int .i64 f2),(⟨eb,2,none⟩,.int .i64 f3),(⟨eb,3,none⟩,.int .i64 f4),(⟨eb,4,none⟩,.int .i64 f5),(⟨eb,5,none⟩,.int .i64 f6),(⟨eb,6,none⟩,.string dat)]))=>(qq.h.2.2.1:qq.w.cell? ⟨fb,jn,none⟩=some (.slice rr.1 ll.length rr.2))
        have re0:=fun (qq:Wrap (CL [(⟨lw,2,none⟩,.slice (some ⟨fb,0,none⟩) LS.fm.length Aq.fc),(⟨lw,3+a,none⟩,.int .i64 (jn:Int)),(⟨fb,jn,none⟩,.slice rr.1 ll.length rr.2),(⟨eb,0,none⟩,.int .i64 f1),(⟨eb,1,none⟩,.int .i64 f2),(⟨eb,2,none⟩,.int .i64 f3),(⟨eb,3,none⟩,.int .i64 f4),(⟨eb,4,none⟩,.int .i64 f5),(⟨eb,5,none⟩,.int .i64 f6),(⟨eb,6,none⟩,.string dat)]))=>(qq.h.2.2.2.1:qq.w.cell? ⟨eb,0,none⟩=some (.int .i64 f1))
        have re1:=fun (qq:Wrap (CL [(⟨lw,2,none⟩,.slice (some ⟨fb,0,none⟩) LS.fm.length Aq.fc),(⟨lw,3+a,none⟩,.int .i64 (jn:Int)),(⟨fb,jn,none⟩,.slice rr.1 ll.length rr.2),(⟨eb,0,none⟩,.int .i64 f1),(⟨eb,1,none⟩,.int .i64 f2),(⟨eb,2,none⟩,.int .i64 f3),(⟨eb,3,none⟩,.int .i64 f4),(⟨eb,4,none⟩,.int .i64 f5),(⟨eb,5,none⟩,.int .i64 f6),(⟨eb,6,none⟩,.string dat)]))=>(qq.h.2.2.2.2.1:qq.w.cell? ⟨eb,1,none⟩=some (.int .i64 f2))
        have re2:=fun (qq:Wrap (CL [(⟨lw,2,none⟩,.slice (some ⟨fb,0,none⟩) LS.fm.length Aq.fc),(⟨lw,3+a,none⟩,.int .i64 (jn:Int)),(⟨fb,jn,none⟩,.slice rr.1 ll.length rr.2),(⟨eb,0,none⟩,.int .i64 f1),(⟨eb,1,none⟩,.int .i64 f2),(⟨eb,2,none⟩,.int .i64 f3),(⟨eb,3,none⟩,.int .i64 f4),(⟨eb,4,none⟩,.int .i64 f5),(⟨eb,5,none⟩,.int .i64 f6),(⟨eb,6,none⟩,.string dat)]))=>(qq.h.2.2.2.2.2.1:qq.w.cell? ⟨eb,2,none⟩=some (.int .i64 f3))
        have re3:=fun (qq:Wrap (CL [(⟨lw,2,none⟩,.slice (some ⟨fb,0,none⟩) LS.fm.length Aq.fc),(⟨lw,3+a,none⟩,.int .i64 (jn:Int)),(⟨fb,jn,none⟩,.slice rr.1 ll.length rr.2),(⟨eb,0,none⟩,.int .i64 f1),(⟨eb,1,none⟩,.int .i64 f2),(⟨eb,2,none⟩,.int .i64 f3),(⟨eb,3,none⟩,.int .i64 f4),(⟨eb,4,none⟩,.int .i64 f5),(⟨eb,5,none⟩,.int .i64 f6),(⟨eb,6,none⟩,.string dat)]))=>(qq.h.2.2.2.2.2.2.1:qq.w.cell? ⟨eb,3,none⟩=some (.int .i64 f4))
        have re4:=fun (qq:Wrap (CL [(⟨lw,2,none⟩,.slice (some ⟨fb,0,none⟩) LS.fm.length Aq.fc),(⟨lw,3+a,none⟩,.int .i64 (jn:Int)),(⟨fb,jn,none⟩,.slice rr.1 ll.length rr.2),(⟨eb,0,none⟩,.int .i64 f1),(⟨eb,1,none⟩,.int .i64 f2),(⟨eb,2,none⟩,.int .i64 f3),(⟨eb,3,none⟩,.int .i64 f4),(⟨eb,4,none⟩,.int .i64 f5),(⟨eb,5,none⟩,.int .i64 f6),(⟨eb,6,none⟩,.string dat)]))=>(qq.h.2.2.2.2.2.2.2.1:qq.w.cell? ⟨eb,4,none⟩=some (.int .i64 f5))
        have re5:=fun (qq:Wrap (CL [(⟨lw,2,none⟩,.slice (some ⟨fb,0,none⟩) LS.fm.length Aq.fc),(⟨lw,3+a,none⟩,.int .i64 (jn:Int)),(⟨fb,jn,none⟩,.slice rr.1 ll.length rr.2),(⟨eb,0,none⟩,.int .i64 f1),(⟨eb,1,none⟩,.int .i64 f2),(⟨eb,2,none⟩,.int .i64 f3),(⟨eb,3,none⟩,.int .i64 f4),(⟨eb,4,none⟩,.int .i64 f5),(⟨eb,5,none⟩,.int .i64 f6),(⟨eb,6,none⟩,.string dat)]))=>(qq.h.2.2.2.2.2.2.2.2.1:qq.w.cell? ⟨eb,5,none⟩=some (.int .i64 f6))
        have re6:=fun (qq:Wrap (CL [(⟨lw,2,none⟩,.slice (some ⟨fb,0,none⟩) LS.fm.length Aq.fc),(⟨lw,3+a,none⟩,.int .i64 (jn:Int)),(⟨fb,jn,none⟩,.slice rr.1 ll.length rr.2),(⟨eb,0,none⟩,.int .i64 f1),(⟨eb,1,none⟩,.int .i64 f2),(⟨eb,2,none⟩,.int .i64 f3),(⟨eb,3,none⟩,.int .i64 f4),(⟨eb,4,none⟩,.int .i64 f5),(⟨eb,5,none⟩,.int .i64 f6),(⟨eb,6,none⟩,.string dat)]))=>(qq.h.2.2.2.2.2.2.2.2.2.1:qq.w.cell? ⟨eb,6,none⟩=some (.string dat))
        refine htt [0,1,2,3,4,5,6,7,8,9,10,11,12,13,14,15,16,17,18,19,20,21,22,23,24,25] 26 (CL [(⟨lw,2,none⟩,.slice (some ⟨fb,0,none⟩) LS.fm.length Aq.fc),(⟨lw,3+a,none⟩,.int .i64 (jn:Int)),(⟨fb,jn,none⟩,.slice rr.1 ll.length rr.2),(⟨eb,0,none⟩,.int .i64 f1),(⟨eb,1,none⟩,.int .i64 f2),(⟨eb,2,none⟩,.int .i64 f3),(⟨eb,3,none⟩,.int .i64 f4),(⟨eb,4,none⟩,.int .i64 f5),(⟨eb,5,none⟩,.int .i64 f6),(⟨eb,6,none⟩,.string dat)]) (by rw [← hW];exact ⟨(by have:=HJ.o.box.box.c 2 _ rfl;rw [HFP.o] at this;exact this),(by rw [← HJN.o];exact HJ.o.box.box.c (3+a) _ (lwL_nw ha8)),(FBC HJ.o),EB.o.box.c 0 _ rfl,EB.o.box.c 1 _ rfl,EB.o.box.c 2 _ rfl,EB.o.box.c 3 _ rfl,EB.o.box.c 4 _ rfl,EB.o.box.c 5 _ rfl,EB.o.box.c 6 _ rfl,trivial⟩) (fun _=>?_)
        rw [← hW]
        clear hW
        repeat ((first|refine hqq fun K hK=>?_;go_big_quiet_op|refine hss fun K hK=>?_;go_big_quiet_op|refine hkk fun K hK=>?_;go_big_quiet_op);refine hK _ ?_;clear hK K)
        replace MJ:=hI (MJ.o.tr (Fm.ext MJ.o.cl X16.o) lw0)
        clear X16
        refine hcc fun K hK=>?_
        go_simp
        have A13:=hI (Ext.alloc W16 (.cells (enA ⟨f1,f2,f3,f4,f5,f6,dat⟩) 71))
        replace HJ:=hI (HJ.o.ext A13.o)
        replace TJ:=hI (TJ.o.ext A13.o)
        replace NJ:=hI (NJ.o.ext A13.o)
        replace EB:=hI (EB.o.ext A13.o)
        replace MJ:=hI (MJ.o.tr (Fm.ext MJ.o.cl A13.o) lw0)
        refine hK (CL [(⟨lw,2,none⟩,.slice (some ⟨fb,0,none⟩) LS.fm.length Aq.fc),(⟨lw,3+a,none⟩,.int .i64 (jn:Int)),(⟨fb,jn,none⟩,.slice rr.1 ll.length rr.2),(⟨eb,0,none⟩,.int .i64 f1),(⟨eb,1,none⟩,.int .i64 f2),(⟨eb,2,none⟩,.int .i64 f3),(⟨eb,3,none⟩,.int .i64 f4),(⟨eb,4,none⟩,.int .i64 f5),(⟨eb,5,none⟩,.int .i64 f6),(⟨eb,6,none⟩,.string dat)]) _ _ (fun _ h=>h) ⟨(by have:=HJ.o.box.box.c 2 _ rfl;rw [HFP.o] at this;exact this),(by rw [← HJN.o];exact HJ.o.box.box.c (3+a) _ (lwL_nw ha8)),(FBC HJ.o),EB.o.box.c 0 _ rfl,EB.o.box.c 1 _ rfl,EB.o.box.c 2 _ rfl,EB.o.box.c 3 _ rfl,EB.o.box.c 4 _ rfl,EB.o.box.c 5 _ rfl,EB.o.box.c 6 _ rfl,trivial⟩ (fun _=>?_)
        clear hK K
        repeat ((first|refine hqq fun K hK=>?_;go_big_quiet_op|refine hss fun K hK=>?_;go_big_quiet_op|refine hkk fun K hK=>?_;go_big_quiet_op);refine hK _ ?_;clear hK K)
        have hl6:ll.length≤1000000:=by have:=HL9.o;omega
        refine hcc fun K hK=>?_
        refine oper_appC (by rfl) _ _ _ (by rfl) 71 7 64 _ Tryz.underlying43 info_en (by rfl) (by omega) MJ.o.cl (HJ.o.q.fi jn rr ll HRR.o HLL.o) (by rfl) W16.heap.size 1 (enL ⟨f1,f2,f3,f4,f5,f6,dat⟩) (by rfl) (by rfl) (fun j u hu=>news_at (w:=W16) rfl j u hu) (en_one [⟨f1,f2,f3,f4,f5,f6,dat⟩] (enL ⟨f1,f2,f3,f4,f5,f6,dat⟩) (by simp)) hl6 (by omega) (by omega) (fun d=>d=310+jn) rfl ?_
        intro p24 c24 o24 w24 r24 f24
        have hjn80:310+jn<400:=by have h1:=HJ.o.q.mx.1;have h2:=(List.getElem?_eq_some_iff.1 HLL.o).1;omega
        have T24:=hI (TJ.o.fr f24 (by omega))
        have N24:=hI (NJ.o.fr (by omega) f24 (by omega) (fun d hd=>by unfold ndI;omega))
        have E24:=hI (EB.o.fr f24 (by decide) (by omega))
        have B24:=hI (HJ.o.box.fr f24 (by decide) (by omega))
        obtain ⟨h25,m25⟩:=HJ.o.firm HRR.o HLL.o HFP.o f24 r24 HL9.o
        have FO24:=(HJ.o.q.others ⟨by omega,hjn80⟩ f24).2.1 (by omega)
        obtain ⟨b',hb1,hb2,hb3,b24,fz24,-⟩:=row_at1 FO24 (fmRow_at _ _ _ _ _ HRR.o HLL.o)
        rw [HFP.o] at hb1
        cases hb1
        have F25:Hid (Fm (fun d=>d=301) o24 o24 w24 (w24.setCell ⟨fb,jn,none⟩ (.slice p24 (ll.length+1) c24))):=hI (Fm.grown f24.cl (grown_put (grown_refl w24 (some fb)) jn _) (fun g hg=>by cases hg;rw [hb2];exact ⟨by decide,rfl⟩))
        rw [HLFE.o] at h25
        have H25:=hI h25
        have M25:=hI (MJ.o.tr m25 lw0)
        have T25:=hI (T24.o.fr F25.o (by omega))
        have N25:=hI (N24.o.fr (by omega) F25.o (by omega) (fun d hd=>by unfold ndI;omega))
        refine hK (CL [(⟨lw,2,none⟩,.slice (some ⟨fb,0,none⟩) LS.fm.length Aq.fc),(⟨lw,3+a,none⟩,.int .i64 (jn:Int)),(⟨fb,jn,none⟩,.slice rr.1 ll.length rr.2),(⟨eb,0,none⟩,.int .i64 f1),(⟨eb,1,none⟩,.int .i64 f2),(⟨eb,2,none⟩,.int .i64 f3),(⟨eb,3,none⟩,.int .i64 f4),(⟨eb,4,none⟩,.int .i64 f5),(⟨eb,5,none⟩,.int .i64 f6),(⟨eb,6,none⟩,.string dat)]) _ _ (fun _ h=>h) ⟨(by have:=B24.o.box.c 2 _ rfl;rw [HFP.o] at this;exact this),(by rw [← HJN.o];exact B24.o.box.c (3+a) _ (lwL_nw ha8)),b24,E24.o.box.c 0 _ rfl,E24.o.box.c 1 _ rfl,E24.o.box.c 2 _ rfl,E24.o.box.c 3 _ rfl,E24.o.box.c 4 _ rfl,E24.o.box.c 5 _ rfl,E24.o.box.c 6 _ rfl,trivial⟩ (fun _=>?_)
        clear hK K
        go_simp
        repeat ((first|refine hqq fun K hK=>?_;go_big_quiet_op|refine hss fun K hK=>?_;go_big_quiet_op|refine hkk fun K hK=>?_;go_big_quiet_op);refine hK _ ?_;clear hK K)
        refine hll fun K hK=>?_
        go_simp
        refine hK _ _ ?_
        clear hK K b24 fz24 h25 m25 r24 f24 HJ TJ NJ EB MJ T24 N24 E24 B24 F25 FO24 hb2 hb3 r2 r3 rf re0 re1 re2 re3 re4 re5 re6 A13 FBC
        generalize w24.setCell ⟨fb,jn,none⟩ (.slice p24 (ll.length+1) c24)=w25 at *
        have HJ:=H25
        have TJ:=T25
        have NJ:=N25
        have MJ:=M25
        replace HTD:Hid (LF.td.at a=(j:Int)):=hI (by rw [HKF.o.2.2.1];exact HTD.o)
        clear H25 T25 N25 M25
        go_upto_region 7 with fail
        obtain ⟨W20,hW⟩:∃ W20,W20=w25.drew:=⟨_,rfl⟩
        have X20:Hid (Ext w25 W20):=hI (by rw [hW];exact Ext.drew w25)
        replace HJ:=hI (HJ.o.ext X20.o)
        replace TJ:=hI (TJ.o.ext X20.o)
        replace NJ:=hI (NJ.o.ext X20.o)
        have g11:∀ d os,(grow (redrawn W20 d) os).cell? ⟨lw,11+a,none⟩=some (.int .i64 (j:Int)):=fun d os=>Ext.cell (Ext.reg W20 d os) (by rw [← HTD.o];exact HJ.o.box.box.c (11+a) _ (lwL_td ha8))
        refine att [0,1,2,3,4,5,6,7,8,9] [10] ?_
        rw [← hW]
        clear hW
        repeat ((first|refine aqq fun K hK=>?_|refine akk fun K hK=>?_);go_big_quiet_op;refine hK _ ?_;clear hK K)
        refine ra_nil ?_
        have c11:W20.cell? ⟨lw,11+a,none⟩=some (.int .i64 (j:Int)):=by rw [← HTD.o];exact HJ.o.box.box.c (11+a) _ (lwL_td ha8)
        have fz:=HJ.o.box.box.f (11+a)
        have hw1:wrap64 ((j:Int)+1)=(j:Int)+1:=by unfold wrap64;omega
        refine too fun K hK=>?_
        go_simp
        obtain ⟨h21,m21⟩:=HJ.o.put (MJ.o.cl.ext X20.o) (11+a) (.int .i64 ((j:Int)+1)) (lwL_std ha8) (fun q=>⟨q.wr,q.nn,q.fo,q.fl,q.fi,q.so,q.vo,q.co,q.mx⟩)
        have H21:=hI h21
        have T21:=hI (TJ.o.fr ((Fm.put (C:=one 300) (MJ.o.cl.ext X20.o) HJ.o.box (by decide) rfl (11+a) (.int .i64 ((j:Int)+1)))) (by unfold one;omega))
        have N21:=hI (NJ.o.fr (by omega) ((Fm.put (C:=one 300) (MJ.o.cl.ext X20.o) HJ.o.box (by decide) rfl (11+a) (.int .i64 ((j:Int)+1)))) (by unfold one;omega) (fun d hd=>by unfold one at hd;unfold ndI;omega))
        have M21:=hI ((MJ.o.tr (Fm.ext MJ.o.cl X20.o) lw0).tr m21 lw0)
        clear h21 m21 c11 fz hw1 g11 X20 HJ TJ NJ MJ
        refine hK _ _ ?_
        clear hK K
        refine rt_nil ?_
        generalize W20.setCell ⟨lw,11+a,none⟩ (.int .i64 ((j:Int)+1))=w21 at *
        have e21:({ LF with td:=LF.td.set a ((j:Int)+1) }:LwD)=Lk:=by rw [← HLK.o,HTD.o]
        rw [e21] at H21
        have HTK:Hid (Lk.td.at a=((j+1:Nat):Int)):=hI (by rw [← e21];show (LF.td.set a ((j:Int)+1)).at a=_;rw [E8.set_at _ ha8,if_pos rfl];rfl)
        clear e21
        go_wp2
        go_roundw
        case rel=>exact ⟨j+1,o24,{ Aq with rows:=Aq.rows.set jn (p24,c24) },Lk,by omega,HTK.o,H21.o,T21.o,N21.o,HRK.o,⟨HKK.o.2.trans KJ.o.1,HKK.o.1.trans KJ.o.2⟩,M21.o⟩
        case measure=>
         have h1:=H21.o.box.box.c (11+a) _ (lwL_td ha8)
         rw [HTK.o] at h1
         have h4:=HCI.o
         unfold cellI at h4
         simp only [cellI,h1]
         rw [h4]
         omega
       ·have g2:(f4==1)=false:=by simpa using hod
        have HF1:Hid (LS=LF):=hI (by
         have:=HLF.o
         unfold lookF at this
         rw [if_neg (by simp only [g1,g2];simp)] at this
         exact Option.some.inj this)
        clear hod
        rw [HF1.o] at HJ HTD
        go_upto_region 7 with fail
        clear d3 d4
        obtain ⟨W20,hW⟩:∃ W20,W20=w15.drew:=⟨_,rfl⟩
        have X20:Hid (Ext w15 W20):=hI (by rw [hW];exact Ext.drew w15)
        replace HJ:=hI (HJ.o.ext X20.o)
        replace TJ:=hI (TJ.o.ext X20.o)
        replace NJ:=hI (NJ.o.ext X20.o)
        have g11:∀ d os,(grow (redrawn W20 d) os).cell? ⟨lw,11+a,none⟩=some (.int .i64 (j:Int)):=fun d os=>Ext.cell (Ext.reg W20 d os) (by rw [← HTD.o];exact HJ.o.box.box.c (11+a) _ (lwL_td ha8))
        refine att [0,1,2,3,4,5,6,7,8,9] [10] ?_
        rw [← hW]
        clear hW
        repeat ((first|refine aqq fun K hK=>?_|refine akk fun K hK=>?_);go_big_quiet_op;refine hK _ ?_;clear hK K)
        refine ra_nil ?_
        have c11:W20.cell? ⟨lw,11+a,none⟩=some (.int .i64 (j:Int)):=by rw [← HTD.o];exact HJ.o.box.box.c (11+a) _ (lwL_td ha8)
        have fz:=HJ.o.box.box.f (11+a)
        have hw1:wrap64 ((j:Int)+1)=(j:Int)+1:=by unfold wrap64;omega
        refine too fun K hK=>?_
        go_simp
        obtain ⟨h21,m21⟩:=HJ.o.put (MJ.o.cl.ext X20.o) (11+a) (.int .i64 ((j:Int)+1)) (lwL_std ha8) (fun q=>⟨q.wr,q.nn,q.fo,q.fl,q.fi,q.so,q.vo,q.co,q.mx⟩)
        have H21:=hI h21
        have T21:=hI (TJ.o.fr ((Fm.put (C:=one 300) (MJ.o.cl.ext X20.o) HJ.o.box (by decide) rfl (11+a) (.int .i64 ((j:Int)+1)))) (by unfold one;omega))
        have N21:=hI (NJ.o.fr (by omega) ((Fm.put (C:=one 300) (MJ.o.cl.ext X20.o) HJ.o.box (by decide) rfl (11+a) (.int .i64 ((j:Int)+1)))) (by unfold one;omega) (fun d hd=>by unfold one at hd;unfold ndI;omega))
        have M21:=hI ((MJ.o.tr (Fm.ext MJ.o.cl X20.o) lw0).tr m21 lw0)
        clear h21 m21 c11 fz hw1 g11 X20 HJ TJ NJ MJ
        refine hK _ _ ?_
        clear hK K
        refine rt_nil ?_
        generalize W20.setCell ⟨lw,11+a,none⟩ (.int .i64 ((j:Int)+1))=w21 at *
        have e21:({ LF with td:=LF.td.set a ((j:Int)+1) }:LwD)=Lk:=by rw [← HLK.o,HTD.o]
        rw [e21] at H21
        have HTK:Hid (Lk.td.at a=((j+1:Nat):Int)):=hI (by rw [← e21];show (LF.td.set a ((j:Int)+1)).at a=_;rw [E8.set_at _ ha8,if_pos rfl];rfl)
        clear e21
        go_wp2
        go_roundw
        case rel=>exact ⟨j+1,o14,{ Aj with sp:=p14,sc:=c14 },Lk,by omega,HTK.o,H21.o,T21.o,N21.o,HRK.o,⟨HKK.o.2.trans KJ.o.1,HKK.o.1.trans KJ.o.2⟩,M21.o⟩
        case measure=>
         have h1:=H21.o.box.box.c (11+a) _ (lwL_td ha8)
         rw [HTK.o] at h1
         have h4:=HCI.o
         unfold cellI at h4
         simp only [cellI,h1]
         rw [h4]
         omega
     ·have e4:decide ((j:Int)<(s.T.length:Int))=false:=decide_eq_false (by omega)
      have HLL:Hid (Lj=L1):=hI (by
       have:=FJ.o
       rw [List.drop_of_length_le (by omega)] at this
       exact Option.some.inj this)
      rw [HLL.o] at HJ KJ
      clear HLL FJ HTD HCI
      go_wp2_with fail
      refine (nview_any NJ.o).mono ?_
      have HVX:=HV1.o
      unfold lookV at HVX
      cases hin:inV s
      ·rw [if_neg (by rw [hin];simp)] at HVX
       have HLB:=hI (Option.some.inj HVX)
       rintro e w9 ⟨rfl,x9⟩
       have H9:=hI (HJ.o.ext x9)
       have M9:=hI (MJ.o.tr (Fm.ext MJ.o.cl x9) lw0)
       rw [HLB.o] at H9
       clear HVX x9 hin HJ MJ TJ NJ HV1
       go_wp2
       go_roundw
       case rel=>exact ⟨a+1,oj,Aj,Lb,by omega,by omega,by go_num,H9.o,HRB.o,HNB.o,M9.o⟩
       case measure=>simp [intOf];omega
      ·rw [if_pos (by rw [hin])] at HVX
       have HVY:=hI HVX
       rintro e w9 ⟨rfl,x9⟩
       have H9:=hI (HJ.o.ext x9)
       have M9:=hI (MJ.o.tr (Fm.ext MJ.o.cl x9) lw0)
       clear HVX x9 hin HJ MJ TJ NJ HV1
       have c20:w9.cell? ⟨lw,20,none⟩=some (.slice Aj.vp L1.vs.length Aj.vc):=H9.o.box.box.c 20 _ rfl
       have hvl:L1.vs.length≤1000:=H9.o.q.mx.2.2.1
       go_wp2
       go_loopw [9,10] (fun v i wx=>wx=w9∧∃ k:Nat,k≤L1.vs.length∧i=.int .i64 (k:Int)∧v=.bool ((L1.vs.take k).any fun x=>x.1==s.ls&&x.2.1==s.mb)) (fun _ i _=>L1.vs.length-(intOf i).toNat)
       case atStart=>exact ⟨rfl,0,by omega,rfl,rfl⟩
       case round=>
        obtain ⟨rfl,k,hk,rfl,rfl⟩:=hrel
        by_cases hltk:k<L1.vs.length
        ·have e5:decide ((k:Int)<(L1.vs.length:Int))=true:=decide_eq_true (by omega)
         obtain ⟨vb,voo,vx,hvp,hvx,v0,v1,v2⟩:=in_at H9.o.q.vo.row.sl k hltk
         have htk:(L1.vs.take (k+1)).any (fun x=>x.1==s.ls&&x.2.1==s.mb)=((L1.vs.take k).any (fun x=>x.1==s.ls&&x.2.1==s.mb) || (vx.1==s.ls&&vx.2.1==s.mb)):=by
          rw [List.take_succ_eq_append_getElem hltk]
          rw [List.getElem?_eq_getElem hltk] at hvx
          rw [Option.some.inj hvx]
          simp
         have HTKK:=hI htk
         rw [hvp] at c20
         obtain ⟨y1,y2,y3⟩:=vx
         simp only at v0 v1 v2
         obtain ⟨bb,hbb⟩:∃ bb,bb=(L1.vs.take k).any (fun x=>x.1==s.ls&&x.2.1==s.mb):=⟨_,rfl⟩
         have HBB:=hI hbb
         rw [← hbb]
         clear hbb hvx htk hvp
         cases bb
         ·by_cases h1:y1=s.ls
          ·have g1:(y1==s.ls)=true:=by simpa using h1
           by_cases h2:y2=s.mb
           ·have g2:(y2==s.mb)=true:=by simpa using h2
            clear h1 h2
            go_wp2
            go_roundw
            case rel=>exact ⟨by first | trivial | rfl,k+1,by omega,by go_num,by rw [HTKK.o,← HBB.o,g1,g2];rfl⟩
            case measure=>simp [intOf];omega
           ·have g2:(y2==s.mb)=false:=by simpa using h2
            clear h1 h2
            go_wp2
            go_roundw
            case rel=>exact ⟨by first | trivial | rfl,k+1,by omega,by go_num,by rw [HTKK.o,← HBB.o,g1,g2];rfl⟩
            case measure=>simp [intOf];omega
          ·have g1:(y1==s.ls)=false:=by simpa using h1
           clear h1
           go_wp2
           go_roundw
           case rel=>exact ⟨by first | trivial | rfl,k+1,by omega,by go_num,by rw [HTKK.o,← HBB.o,g1];rfl⟩
           case measure=>simp [intOf];omega
         ·go_wp2
          go_roundw
          case rel=>exact ⟨by first | trivial | rfl,k+1,by omega,by go_num,by rw [HTKK.o,← HBB.o];rfl⟩
          case measure=>simp [intOf];omega
        ·have e5:decide ((k:Int)<(L1.vs.length:Int))=false:=decide_eq_false (by omega)
         have HSE:Hid ((L1.vs.take k).any (fun x=>x.1==s.ls&&x.2.1==s.mb)=seenL L1 s):=hI (by
          rw [List.take_of_length_le (by omega)]
          rfl)
         rw [HSE.o]
         have HVX:=HVY.o
         cases hse:seenL L1 s
         ·rw [if_neg (by rw [hse];simp)] at HVX
          split at HVX
          case isFalse=>cases HVX
          rename_i hv9
          have HV9:=hI (of_decide_eq_true hv9)
          have HLB:=hI (Option.some.inj HVX)
          clear HVX hv9 hse HSE
          go_upto_region 21 with fail
          clear c20 e5
          obtain ⟨W30,hW⟩:∃ W30,W30=wr.drew:=⟨_,rfl⟩
          have X30:Hid (Ext wr W30):=hI (by rw [hW];exact Ext.drew wr)
          replace H9:=hI (H9.o.ext X30.o)
          have r20:=fun (qq:Wrap (CL [(⟨lw,20,none⟩,.slice Aj.vp L1.vs.length Aj.vc),(⟨lw,0,none⟩,ptrN Aj.wb)]))=>(qq.h.1:qq.w.cell? ⟨lw,20,none⟩=some (.slice Aj.vp L1.vs.length Aj.vc))
          have r0:=fun (qq:Wrap (CL [(⟨lw,20,none⟩,.slice Aj.vp L1.vs.length Aj.vc),(⟨lw,0,none⟩,ptrN Aj.wb)]))=>(qq.h.2.1:qq.w.cell? ⟨lw,0,none⟩=some (ptrN Aj.wb))
          refine htt [0,1,2,3,4,5,6,7,8,9,10,11,12,13,14,15,16] 17 (CL [(⟨lw,20,none⟩,.slice Aj.vp L1.vs.length Aj.vc),(⟨lw,0,none⟩,ptrN Aj.wb)]) (by rw [← hW];exact ⟨H9.o.box.box.c 20 _ rfl,H9.o.box.box.c 0 _ rfl,trivial⟩) (fun _=>?_)
          rw [← hW]
          clear hW
          repeat ((first|refine hqq fun K hK=>?_;go_big_quiet_op|refine hss fun K hK=>?_;go_big_quiet_op|refine hkk fun K hK=>?_;go_big_quiet_op);refine hK _ ?_;clear hK K)
          replace M9:=hI (M9.o.tr (Fm.ext M9.o.cl X30.o) lw0)
          clear X30
          refine hcc fun K hK=>?_
          go_simp
          refine (wreal_any H9.o.q.wr).mono ?_
          rintro e w31 ⟨rfl,rfl⟩
          refine hK (CL [(⟨lw,20,none⟩,.slice Aj.vp L1.vs.length Aj.vc),(⟨lw,0,none⟩,ptrN Aj.wb)]) _ _ (fun _ h=>h) ⟨H9.o.box.box.c 20 _ rfl,H9.o.box.box.c 0 _ rfl,trivial⟩ (fun _=>?_)
          clear hK K
          repeat ((first|refine hqq fun K hK=>?_;go_big_quiet_op|refine hss fun K hK=>?_;go_big_quiet_op|refine hkk fun K hK=>?_;go_big_quiet_op);refine hK _ ?_;clear hK K)
          refine hcc fun K hK=>?_
          go_simp
          refine hK (CL [(⟨lw,20,none⟩,.slice Aj.vp L1.vs.length Aj.vc),(⟨lw,0,none⟩,ptrN Aj.wb)]) _ _ (fun _ h=>h) ⟨H9.o.box.box.c 20 _ rfl,H9.o.box.box.c 0 _ rfl,trivial⟩ (fun _=>?_)
          clear hK K
          repeat ((first|refine hqq fun K hK=>?_;go_big_quiet_op|refine hss fun K hK=>?_;go_big_quiet_op|refine hkk fun K hK=>?_;go_big_quiet_op);refine hK _ ?_;clear hK K)
          refine hcc fun K hK=>?_
          go_simp
          have A13:=hI (Ext.alloc W30 (.cells #[.int .i64 s.ls,.int .i64 s.mb,.int .i64 L1.W.rl] 104))
          replace H9:=hI (H9.o.ext A13.o)
          replace M9:=hI (M9.o.tr (Fm.ext M9.o.cl A13.o) lw0)
          refine hK (CL [(⟨lw,20,none⟩,.slice Aj.vp L1.vs.length Aj.vc),(⟨lw,0,none⟩,ptrN Aj.wb)]) _ _ (fun _ h=>h) ⟨H9.o.box.box.c 20 _ rfl,H9.o.box.box.c 0 _ rfl,trivial⟩ (fun _=>?_)
          clear hK K
          repeat ((first|refine hqq fun K hK=>?_;go_big_quiet_op|refine hss fun K hK=>?_;go_big_quiet_op|refine hkk fun K hK=>?_;go_big_quiet_op);refine hK _ ?_;clear hK K)
          have hl6:L1.vs.length≤1000000:=by have:=HV9.o;omega
          refine hcc fun K hK=>?_
          refine oper_appC (by rfl) _ _ _ (by rfl) 104 3 24 _ Tryz.underlying42 info_in (by rfl) (by omega) M9.o.cl H9.o.q.vo (by rfl) W30.heap.size 1 [.int .i64 s.ls,.int .i64 s.mb,.int .i64 L1.W.rl] (by rfl) (by rfl) (fun j u hu=>news_at (w:=W30) rfl j u hu) (by simp [Value.oneCell']) hl6 (by omega) (by decide) (fun d=>d=303) rfl ?_
          intro p34 c34 o34 w34 r34 f34
          have B34:=hI (H9.o.box.fr f34 (by decide) (by omega))
          have b20:=B34.o.box.c 20 _ rfl
          have f20:=B34.o.box.f 20
          have e35:(L1.vs++[(s.ls,s.mb,L1.W.rl)]).length=L1.vs.length+1:=by simp
          obtain ⟨h35,m35⟩:=H9.o.app (A':={ Aj with vp:=p34,vc:=c34 }) (L':={ L1 with vs:=L1.vs++[(s.ls,s.mb,L1.W.rl)] }) ⟨by decide,by decide⟩ f34 (H9.o.q.inst f34 (x:=(s.ls,s.mb,L1.W.rl)) r34 HV9.o) 20 (.slice p34 (L1.vs.length+1) c34) (by rw [← e35];rfl)
          rw [HLB.o] at h35
          have H35:=hI h35
          have M35:=hI (M9.o.tr m35 lw0)
          refine hK (CL [(⟨lw,20,none⟩,.slice Aj.vp L1.vs.length Aj.vc),(⟨lw,0,none⟩,ptrN Aj.wb)]) _ _ (fun _ h=>h) ⟨B34.o.box.c 20 _ rfl,B34.o.box.c 0 _ rfl,trivial⟩ (fun _=>?_)
          clear hK K
          go_simp
          repeat ((first|refine hqq fun K hK=>?_;go_big_quiet_op|refine hss fun K hK=>?_;go_big_quiet_op|refine hkk fun K hK=>?_;go_big_quiet_op);refine hK _ ?_;clear hK K)
          refine hll fun K hK=>?_
          go_simp
          refine hK _ _ ?_
          clear hK K b20 f20 h35 m35 r34 f34 H9 M9 B34 r20 r0 A13 e35
          generalize w34.setCell ⟨lw,20,none⟩ (.slice p34 (L1.vs.length+1) c34)=w35 at *
          go_wp2
          go_roundw
          case rel=>exact ⟨a+1,o34,{ Aj with vp:=p34,vc:=c34 },Lb,by omega,by omega,by go_num,H35.o,HRB.o,HNB.o,M35.o⟩
          case measure=>simp [intOf];omega
         ·rw [if_pos (by rw [hse])] at HVX
          have HLB:=hI (Option.some.inj HVX)
          clear HVX hse HSE
          rw [HLB.o] at H9
          go_wp2
          go_roundw
          case rel=>exact ⟨a+1,oj,Aj,Lb,by omega,by omega,by go_num,H9.o,HRB.o,HNB.o,M9.o⟩
          case measure=>simp [intOf];omega
  ·have e3:decide ((a:Int)≤(L.n:Int))=false:=decide_eq_false (by omega)
   have HW1:Hid (La=L'):=hI (by
    have:=HFA.o
    rw [show L.n+1-a=0 by omega] at this
    exact Option.some.inj this)
   rw [HW1.o] at HA
   go_wp2
   refine bodyPost_end (v:=.tuple #[]) (by simp [results,Tryz.results46,go_sem]) rfl ?_
   first | exact ⟨rfl,oa,Aa,HA.o,MA.o⟩ | exact ⟨rfl,oa,⟨Aa,HA.o⟩,MA.o⟩
end
section
open Go Go.RowKit
theorem shr_bit {t:Int} (ht:isT t) {k:Nat} (hk:k<7):((((t.toNat >>> k:Nat):Int).tmod 2==1)=hasT t ((k:Int)+1))∧((t.toNat >>> k:Nat):Int).tdiv 2=((t.toNat >>> (k+1):Nat):Int):=by
 have h1:((k:Int)+1).toNat-1=k:=by omega
 have h2:t.toNat >>> (k+1)=(t.toNat >>> k) / 2:=by rw [Nat.shiftRight_succ]
 unfold hasT
 rw [h1,h2]
 generalize t.toNat >>> k=x
 rw [Int.tmod_eq_emod_of_nonneg (by omega),Int.tdiv_eq_ediv_of_nonneg (by omega)]
 constructor
 ·rw [Bool.eq_iff_iff]
  simp only [beq_iff_eq]
  omega
 ·omega
theorem trlist_any (t:Int) (ht:isT t) (w:World):Calls Tryz.prog 23 #[.int .i64 t] w fun e w'=>∃ p cap,e=.returned (.slice p (idsT.filter (hasT t)).length cap)∧OwS 3 1 w' w.heap.size p (idsT.filter (hasT t)).length cap ((idsT.filter (hasT t)).map intL)∧Ext w w':=by
 obtain ⟨i0,hi0,hz0,hz1,hz2⟩:=info_parts' info_int
 have HI0:=hI hi0
 have HT:=hI ht
 have HTN:Hid (t=((t.toNat >>> 0:Nat):Int)):=hI (by have:=ht.1;simp;omega)
 have hw:IntKind.u64.wrap t=t:=by have:=ht.1;have:=ht.2;unfold IntKind.wrap;simp [IntKind.bits,IntKind.signed];omega
 clear hi0 ht
 go_enter Tryz.func23,Tryz.ntmps23
 go_wp2_with fail
 go_loopw [3,4,5] (fun l u i wr=>∃ (k:Nat) (p:Option Addr) (cap:Nat),k≤7∧i=.int .i64 ((k:Int)+1)∧u=.int .u64 ((t.toNat >>> k:Nat):Int)∧l=.slice p (upT t k).length cap∧Hid (OwS 3 1 wr w.heap.size p (upT t k).length cap ((upT t k).map intL))∧Hid (Ext w wr)) (fun _ _ i _=>8-(intOf i).toNat)
 case atStart=>exact ⟨0,none,0,by omega,rfl,by rw [← HTN.o],rfl,hI (OwS.nil _ _ _ _),hI (Ext.rfl' _)⟩
 case round=>
  obtain ⟨k,p,cap,hk,rfl,rfl,rfl,O,X⟩:=hrel
  by_cases hlt:k<7
  ·have h1:(k:Int)+1≤7:=by omega
   have hu:=upT_le t k
   have HS:=hI (upT_succ t k hlt)
   have SB:=shr_bit HT.o hlt
   obtain ⟨u,hu0⟩:∃ u,u=((t.toNat >>> k:Nat):Int):=⟨_,rfl⟩
   obtain ⟨v,hv0⟩:∃ v,v=((t.toNat >>> (k+1):Nat):Int):=⟨_,rfl⟩
   have hwv:IntKind.u64.wrap v=v:=by
    have h2:t.toNat >>> (k+1)≤t.toNat:=Nat.shiftRight_le _ _
    have h3:=HT.o.2
    have h4:=HT.o.1
    have h5:0≤v∧v<18446744073709551616:=by
     rw [hv0]
     generalize t.toNat >>> (k+1)=m at h2 ⊢
     omega
    unfold IntKind.wrap
    simp [IntKind.bits,IntKind.signed]
    omega
   rw [← hu0,← hv0] at SB
   rw [← hu0]
   have HU:=hI hu0
   have HV:=hI hv0
   obtain ⟨s1,s2⟩:=SB
   clear hu0 hv0
   cases hh:hasT t ((k:Int)+1)
   ·rw [hh] at s1
    have HS2:Hid (upT t (k+1)=upT t k):=hI (by rw [HS.o,hh];simp)
    clear HS hh
    go_wp2
    go_roundw
    case rel=>exact ⟨k+1,p,cap,by omega,by go_num,by rw [← HV.o],by rw [HS2.o],by rw [HS2.o];exact O,X⟩
    case measure=>simp [intOf];omega
   ·rw [hh] at s1
    have HS2:Hid (upT t (k+1)=upT t k++[(k:Int)+1]):=hI (by rw [HS.o,hh];simp)
    have HL2:Hid ((upT t (k+1)).length=(upT t k).length+1):=hI (by rw [HS2.o];simp)
    clear HS hh
    have A2:=hI (Ext.alloc wr (.cells #[.int .i64 ((k:Int)+1)] 3))
    have SR:Hid (SlS 1 (wr.alloc (.cells #[.int .i64 ((k:Int)+1)] 3)) (some ⟨wr.heap.size,0,none⟩) 1 1 [intL ((k:Int)+1)]):=hI (SlS.lit wr 1 _ _ _ rfl (by simp [intL]) rfl (by decide))
    have hb:w.heap.size≤(wr.alloc (.cells #[.int .i64 ((k:Int)+1)] 3)).heap.size:=(X.o.tr A2.o).size
    go_wp2_with (at_builtin;refine wpList_appS rfl _ _ 49 rfl w.heap.size Tryz.underlying49 i0 _ 8 HI0.o hz0 hz1 hz2 rfl (by decide) p (upT t k).length cap _ rfl (O.o.ext A2.o) (some ⟨wr.heap.size,0,none⟩) 1 1 _ rfl SR.o (by simp [intL,Value.oneCell']) (by omega) (by omega) hb ?_)
    intro p3 c3 w3 o3 g3
    have O3:=hI o3
    have X3:=hI (Below.grown (X.o.tr A2.o) g3 (X.o.tr A2.o).size (fun b hb=>O.o.lt _ hb |>.1))
    clear o3 g3 A2 SR hb
    go_wp2
    go_roundw
    case rel=>exact ⟨k+1,p3,c3,by omega,by go_num,by rw [← HV.o],by rw [HL2.o],hI (by rw [HL2.o,HS2.o,List.map_append];exact O3.o),X3⟩
    case measure=>simp [intOf];omega
  ·have hk7:k=7:=by omega
   subst hk7
   go_wp2
   go_ret
   exact ⟨p,cap,rfl,O.o,X.o⟩
theorem mem_ids {t i:Int} (hi:isId i):(idsT.filter (hasT t)).any (fun x=>x==i)=hasT t i:=by
 have h:i=1∨i=2∨i=3∨i=4∨i=5∨i=6∨i=7:=by unfold isId at hi;omega
 rw [Bool.eq_iff_iff,List.any_eq_true]
 constructor
 ·rintro ⟨x,hx,he⟩
  rw [beq_iff_eq] at he
  subst he
  exact (List.mem_filter.1 hx).2
 ·intro h1
  refine ⟨i,List.mem_filter.2 ⟨?_,h1⟩,by simp⟩
  unfold idsT
  rcases h with rfl | rfl | rfl | rfl | rfl | rfl | rfl <;> simp
theorem trhas_any (t i:Int) (ht:isT t) (hi:isId i) (w:World):Calls Tryz.prog 19 #[.int .i64 t,.int .i64 i] w fun e w'=>e=.returned (.bool (hasT t i))∧Ext w w':=by
 have LL:=hI (trlist_any t ht w)
 have HM:=hI (mem_ids (t:=t) hi)
 have hl7:(idsT.filter (hasT t)).length≤7:=upT_le t 7
 generalize idsT.filter (hasT t)=L at *
 clear ht hi
 go_enter Tryz.func19,Tryz.ntmps19
 go_wp2_with fail
 refine LL.o.mono ?_
 rintro e w1 ⟨p,cap,rfl,ow,x1⟩
 have O:=hI ow.sl
 have X1:=hI x1
 clear ow x1 LL
 go_wp2_with fail
 go_loopw [6] (fun a wr=>wr=w1∧∃ k:Nat,k≤L.length∧a=.int .i64 (k:Int)∧(L.take k).any (fun x=>x==i)=false) (fun a _=>L.length-(intOf a).toNat)
 case atStart=>exact ⟨rfl,0,by omega,rfl,rfl⟩
 case round=>
  obtain ⟨rfl,k,hk,rfl,ht⟩:=hrel
  have HTK:=hI ht
  clear ht
  by_cases hlt:k<L.length
  ·have e5:decide ((k:Int)<(L.length:Int))=true:=decide_eq_true (by omega)
   obtain ⟨b,oo,x,hp,hx,-,hc⟩:=O.o.at k hlt
   rw [List.getElem?_map] at hx
   obtain ⟨y,hy,rfl⟩:=Option.map_eq_some_iff.1 hx
   have c0:wr.cell? ⟨b,oo+k,none⟩=some (.int .i64 y):=by
    have:=hc 0 _ rfl
    simpa using this
   have HTS:Hid ((L.take (k+1)).any (fun x=>x==i)=(y==i)):=hI (by
    rw [List.take_succ_eq_append_getElem hlt,List.any_append,HTK.o]
    rw [List.getElem?_eq_getElem hlt] at hy
    rw [Option.some.inj hy]
    simp)
   have HY:=hI hy
   subst hp
   clear hx hy hc
   cases hyi:y==i
   ·rw [hyi] at HTS
    go_wp2
    go_roundw
    case rel=>exact ⟨by first | trivial | rfl,k+1,by omega,by go_num,HTS.o⟩
    case measure=>simp [intOf];omega
   ·have HR:Hid (hasT t i=true):=hI (by
     rw [← HM.o,List.any_eq_true]
     exact ⟨y,List.mem_of_getElem? HY.o,hyi⟩)
    go_wp2
    go_ret
    rw [HR.o]
    exact ⟨rfl,X1.o⟩
  ·have e5:decide ((k:Int)<(L.length:Int))=false:=decide_eq_false (by omega)
   have HR:Hid (hasT t i=false):=hI (by
    rw [← HM.o,← HTK.o,List.take_of_length_le (by omega)])
   go_wp2
   go_ret
   rw [HR.o]
   exact ⟨rfl,X1.o⟩
end
section
open Go Go.RowKit
theorem tpow_step (k:Nat) (hk:k<7):wrap64 (((2 ^ k:Nat):Int) * 2)=((2 ^ (k+1):Nat):Int):=by
 have h:2 ^ k≤2 ^ 6:=Nat.pow_le_pow_right (by decide) (by omega)
 rw [Nat.pow_succ]
 generalize 2 ^ k=p at *
 unfold wrap64
 omega
theorem trmayteam_any (t:Int) (n:Nat) (ht:isT t) (hn:3≤n∧n≤7) (w:World):Calls Tryz.prog 53 #[.int .i64 t,.int .i64 (n:Int)] w fun e w'=>e=.returned (.bool (mayT t (n:Int)))∧w=w':=by
 have HM:Hid (decide (t<((2 ^ n:Nat):Int))=mayT t (n:Int)):=hI (by
  unfold mayT
  rw [Int.toNat_natCast,Nat.one_shiftLeft])
 obtain ⟨t1,t2⟩:=ht
 obtain ⟨n1,n2⟩:=hn
 go_enter Tryz.func53,Tryz.ntmps53
 go_wp2
 go_loopw [5,6] (fun a b wr=>wr=w∧∃ k:Nat,k≤n∧b=.int .i64 (k:Int)∧a=.int .i64 ((2 ^ k:Nat):Int)) (fun _ b _=>n-(intOf b).toNat)
 case atStart=>exact ⟨rfl,0,by omega,rfl,rfl⟩
 case round=>
  obtain ⟨rfl,k,hk,rfl,rfl⟩:=hrel
  by_cases hlt:k<n
  ·have e5:decide ((k:Int)<(n:Int))=true:=decide_eq_true (by omega)
   have HP:=hI (tpow_step k (by omega))
   generalize hP:((2 ^ k:Nat):Int)=P at HP ⊢
   have e6:=HP.o
   clear hP
   go_wp2
   go_roundw
   case rel=>exact ⟨by first | trivial | rfl,k+1,by omega,by go_num,by rw [← HP.o]⟩
   case measure=>simp [intOf];omega
  ·have e5:decide ((k:Int)<(n:Int))=false:=decide_eq_false (by omega)
   have hkn:k=n:=by omega
   rw [hkn]
   clear hkn
   obtain ⟨P,hP⟩:∃ P,P=((2 ^ n:Nat):Int):=⟨_,rfl⟩
   rw [← hP] at HM ⊢
   clear hP
   go_wp2
   go_ret
   rw [← HM.o]
   exact ⟨rfl,rfl⟩
theorem trmost_any (t:Int) (n:Nat) (ht:isT t) (hn:3≤n∧n≤7) (w:World):Calls Tryz.prog 29 #[.int .i64 t,.int .i64 (n:Int)] w fun e w'=>e=.returned (.bool (mostT t (n:Int)))∧Ext w w':=by
 have MT:=hI (trmayteam_any t n ht hn w)
 have LL:=hI (trlist_any t ht w)
 have hl7:(idsT.filter (hasT t)).length≤7:=upT_le t 7
 have HR:Hid (mostT t (n:Int)=(mayT t (n:Int)&&decide ((n:Int)<2 * ((idsT.filter (hasT t)).length:Int)))):=hI rfl
 generalize idsT.filter (hasT t)=L at *
 generalize mostT t (n:Int)=R at *
 generalize mayT t (n:Int)=B at *
 have HQ:Hid (Int.tdiv (n:Int) 2=((n / 2:Nat):Int)):=hI (by rw [Int.tdiv_eq_ediv_of_nonneg (by omega)];omega)
 have hq:=HQ.o
 have HD:Hid (decide (n / 2<L.length)=decide ((n:Int)<2 * (L.length:Int))):=hI (by
  rw [decide_eq_decide]
  omega)
 generalize hN:n / 2=N at *
 have hN7:N≤3:=by omega
 clear ht hn hN
 go_enter Tryz.func29,Tryz.ntmps29
 go_wp2_with fail
 refine MT.o.mono ?_
 rintro e w1 ⟨rfl,rfl⟩
 cases B
 ·go_wp2
  go_ret
  rw [HR.o]
  exact ⟨rfl,Ext.rfl' _⟩
 ·go_wp2_with fail
  refine LL.o.mono ?_
  rintro e w1 ⟨p,cap,rfl,ow,x1⟩
  have X1:=hI x1
  clear ow x1 LL
  go_wp2
  go_ret
  rw [HR.o,← HD.o,Bool.true_and]
  exact ⟨rfl,X1.o⟩
theorem lt_tmod (x:Int) {k:Int} (hk:0<k):-k<x.tmod k:=by
 by_cases hx:0≤x
 ·have:=Int.tmod_nonneg k hx
  omega
 ·have h1:=Int.tmod_lt_of_pos (-x) hk
  rw [Int.neg_tmod] at h1
  omega
def smallI (x k:Int):Int:=if x.tmod k<0 then -(x.tmod k) else x.tmod k
theorem smallI_lt {x k:Int} (hk:0<k):0≤smallI x k∧smallI x k<k:=by
 have h1:=Int.tmod_lt_of_pos x hk
 have h2:-k<x.tmod k:=lt_tmod x hk
 unfold smallI
 split <;> omega
theorem small_any (x k:Int) (hk:0<k∧k≤1000) (w:World):Calls Tryz.prog 13 #[.int .i64 x,.int .i64 k] w fun e w'=>e=.returned (.int .i64 (smallI x k))∧w=w':=by
 obtain ⟨k1,k2⟩:=hk
 have k0:¬ k=0:=by omega
 have hm:=hI (Int.tmod_lt_of_pos x k1)
 have hz:=hI (lt_tmod x k1)
 obtain ⟨R,hR⟩:∃ R,R=Int.tmod x k:=⟨_,rfl⟩
 have r1:R<k:=by have:=hm.out;omega
 have r0:-k<R:=by have:=hz.out;omega
 unfold smallI
 rw [← hR]
 replace hR:=hR.symm
 go_enter Tryz.func13,Tryz.ntmps13
 by_cases h0:R<0
 ·have e1:decide (R<0)=true:=decide_eq_true h0
  have hw:wrap64 (-R)=-R:=by unfold wrap64;omega
  rw [if_pos h0]
  go_wp2
  go_ret
  exact ⟨rfl,rfl⟩
 ·have e1:decide (R<0)=false:=decide_eq_false h0
  rw [if_neg h0]
  go_wp2
  go_ret
  exact ⟨rfl,rfl⟩
def dataB (r:Nat):ByteArray:=⟨#[UInt8.ofNat (97+r % 26),61,UInt8.ofNat (48+r % 10)]⟩
theorem data_any (r:Nat) (hr:r<1000) (w:World):Calls Tryz.prog 25 #[.int .i64 (r:Int)] w fun e w'=>e=.returned (.string (dataB r))∧Ext w w':=by
 have hR:Int.tmod (r:Int) 26=((r % 26:Nat):Int):=by rw [Int.tmod_eq_emod_of_nonneg (by omega)];omega
 have hS:Int.tmod (r:Int) 10=((r % 10:Nat):Int):=by rw [Int.tmod_eq_emod_of_nonneg (by omega)];omega
 have SP:=SlP.lit w 3 #[.int .u8 (97+((r % 26:Nat):Int)),.int .u8 61,.int .u8 (48+((r % 10:Nat):Int))] (0,0) [UInt8.ofNat (97+r % 26),61,UInt8.ofNat (48+r % 10)] rfl (by
  have h1:((UInt8.ofNat (97+r % 26)).toNat:Int)=97+((r % 26:Nat):Int):=by rw [UInt8.toNat_ofNat'];omega
  have h2:((UInt8.ofNat (48+r % 10)).toNat:Int)=48+((r % 10:Nat):Int):=by rw [UInt8.toNat_ofNat'];omega
  simp only [List.map,bv,h1,h2]
  rfl) (by decide)
 have ra:r % 26<26:=Nat.mod_lt _ (by decide)
 have rb:r % 10<10:=Nat.mod_lt _ (by decide)
 have HD:Hid (ByteArray.mk [UInt8.ofNat (97+r % 26),61,UInt8.ofNat (48+r % 10)].toArray=dataB r):=hI rfl
 generalize [UInt8.ofNat (97+r % 26),61,UInt8.ofNat (48+r % 10)]=l at SP HD
 generalize r % 26=a at *
 generalize r % 10=b at *
 have hwa:wrap64 (97+(a:Int))=97+(a:Int):=by unfold wrap64;omega
 have hwb:wrap64 (48+(b:Int))=48+(b:Int):=by unfold wrap64;omega
 have hua:IntKind.u8.wrap (97+(a:Int))=97+(a:Int):=by unfold IntKind.wrap;simp [IntKind.bits,IntKind.signed];omega
 have hub:IntKind.u8.wrap (48+(b:Int))=48+(b:Int):=by unfold IntKind.wrap;simp [IntKind.bits,IntKind.signed];omega
 have CV:=run_str (P:=Tryz.prog) 72 5 9 Tryz.underlying72 Tryz.underlying5 Tryz.underlying9 SP
 have A1:=hI (Ext.alloc w (.cells #[.int .u8 (97+(a:Int)),.int .u8 61,.int .u8 (48+(b:Int))] 5))
 clear SP
 go_enter Tryz.func25,Tryz.ntmps25
 go_wp2
 go_ret
 rw [HD.o]
 exact ⟨rfl,A1.o⟩
end
section
open Go Go.Sort Go.RowKit
def pairsB (n:Nat) (f:Nat→Nat→Bool):Bool:=(List.range n).all fun i=>(List.range i).all fun k=>f i k
theorem pairsB_at {n:Nat} {f:Nat→Nat→Bool} (h:pairsB n f=true) {i k:Nat} (hi:i<n) (hk:k<i):f i k=true:=by
 unfold pairsB at h
 rw [List.all_eq_true] at h
 have h1:=h i (List.mem_range.2 hi)
 rw [List.all_eq_true] at h1
 exact h1 k (List.mem_range.2 hk)
def headsB (a b:List EnD):Bool:=eqL (a.take (min a.length b.length)) (b.take (min a.length b.length))
def oneF (L:LwD) (i k:Nat):Bool:=match L.fm[i]?,L.fm[k]? with
 | some a,some b=>headsB a b
 | _,_=>false
def oneV (L:LwD) (i k:Nat):Bool:=match L.vs[i]?,L.vs[k]? with
 | some x,some y=>!(x.1==y.1)
 | _,_=>false
def logsB (x y:NdD):Bool:=decide (x.cm≤(x.L.length:Int)∧y.cm≤(y.L.length:Int))&&eqL (x.L.take (min x.cm.toNat y.cm.toNat)) (y.L.take (min x.cm.toNat y.cm.toNat))
def oneP (L:LwD) (a b:Nat):Bool:=b==0 || match L.W.sl[a-1]?,L.W.sl[b-1]? with
 | some (.up x),some (.up y)=>logsB x y
 | _,_=>true
def firmOneL (L:LwD):Bool:=pairsB L.fm.length (oneF L)&&(L.vs.all fun x=>decide (0≤x.2.1∧x.2.1<128)&&mostT x.2.1 (L.n:Int))&&pairsB L.vs.length (oneV L)&&pairsB (L.n+1) (oneP L)
theorem firmOneL_1 {L:LwD} (h:firmOneL L=true) {i k:Nat} {a b:List EnD} (hk:k<i) (ha:L.fm[i]?=some a) (hb:L.fm[k]?=some b):headsB a b=true:=by
 unfold firmOneL at h
 simp only [Bool.and_eq_true] at h
 have:=pairsB_at h.1.1.1 (List.getElem?_eq_some_iff.1 ha).1 hk
 unfold oneF at this
 rw [ha,hb] at this
 exact this
theorem firmOneL_2 {L:LwD} (h:firmOneL L=true) {i:Nat} {x:Int × Int × Int} (hx:L.vs[i]?=some x):isT x.2.1∧mostT x.2.1 (L.n:Int)=true:=by
 unfold firmOneL at h
 simp only [Bool.and_eq_true] at h
 have:=List.all_eq_true.1 h.1.1.2 x (List.mem_of_getElem? hx)
 simp only [Bool.and_eq_true,decide_eq_true_eq] at this
 exact this
theorem firmOneL_3 {L:LwD} (h:firmOneL L=true) {i k:Nat} {x y:Int × Int × Int} (hk:k<i) (hx:L.vs[i]?=some x) (hy:L.vs[k]?=some y):(x.1==y.1)=false:=by
 unfold firmOneL at h
 simp only [Bool.and_eq_true] at h
 have:=pairsB_at h.1.2 (List.getElem?_eq_some_iff.1 hx).1 hk
 unfold oneV at this
 rw [hx,hy] at this
 simpa using this
theorem firmOneL_4 {L:LwD} (h:firmOneL L=true) {a b:Nat} {x y:NdD} (hb1:1≤b) (hb:b<a) (ha:a≤L.n) (hx:L.W.sl[a-1]?=some (.up x)) (hy:L.W.sl[b-1]?=some (.up y)):logsB x y=true:=by
 unfold firmOneL at h
 simp only [Bool.and_eq_true] at h
 have:=pairsB_at h.2 (show a<L.n+1 by omega) hb
 unfold oneP at this
 rw [hx,hy] at this
 simpa [show (b==0)=false by simp;omega] using this
variable {w w4:World} {o o4:Ow} {lw:Nat} {A A':LwA} {L L':LwD}
theorem LwV.n7 (h:LwV w o lw A L):3≤L.n∧L.n≤7:=by
 have h1:=h.q.wr.hn
 have h2:=h.q.nn
 omega
theorem lone_any (h:LwV w o lw A L) (hs:firmOneL L=true) :
  Calls Tryz.prog 30 #[ptrN lw] w fun e w'=>e=.returned (.bool true)∧Ext w w':=by
 have H:=hI h
 have HO:=hI hs
 have hn7:=h.n7
 have hfl:L.fm.length≤80:=h.q.mx.1
 have hvl:L.vs.length≤1000:=h.q.mx.2.2.1
 clear h hs
 go_enter Tryz.func30,Tryz.ntmps30
 go_wp2
 go_loopw [3] (fun a wx=>∃ i:Nat,i≤L.fm.length∧a=.int .i64 (i:Int)∧Ext w wx) (fun a _=>L.fm.length-(intOf a).toNat)
 case atStart=>exact ⟨0,by omega,rfl,Ext.rfl' _⟩
 case round=>
  obtain ⟨i,hi,rfl,xx⟩:=hrel
  have X:=hI xx
  have HX:=hI (H.o.ext xx)
  clear xx
  have c2:wr.cell? ⟨lw,2,none⟩=some (.slice A.fp L.fm.length A.fc):=HX.o.box.box.c 2 _ rfl
  by_cases hlt:i<L.fm.length
  ·have e5:decide ((i:Int)<(L.fm.length:Int))=true:=decide_eq_true (by omega)
   have e5n:decide (i<L.fm.length)=true:=decide_eq_true hlt
   have f1:(0:Int)≤(i:Int):=by omega
   have f2:(i:Int)<(L.fm.length:Int):=by omega
   go_wp2
   go_loopw [4] (fun b wx=>∃ k:Nat,k≤i∧b=.int .i64 (k:Int)∧Ext w wx) (fun b _=>i-(intOf b).toNat)
   case atStart=>exact ⟨0,by omega,rfl,X.o⟩
   case round=>
    obtain ⟨k,hk,rfl,xx⟩:=hrel
    have X:=hI xx
    have HX:=hI (H.o.ext xx)
    clear xx c2
    by_cases hlk:k<i
    ·have e6:decide ((k:Int)<(i:Int))=true:=decide_eq_true (by omega)
     have e6n:decide (k<i)=true:=decide_eq_true hlk
     have f3:(0:Int)≤(k:Int):=by omega
     have f4:(k:Int)<(L.fm.length:Int):=by omega
     obtain ⟨la,hla⟩:∃ l,L.fm[i]?=some l:=⟨_,List.getElem?_eq_getElem hlt⟩
     obtain ⟨lb,hlb⟩:∃ l,L.fm[k]?=some l:=⟨_,List.getElem?_eq_getElem (by omega)⟩
     obtain ⟨ra,hra⟩:∃ r,A.rows[i]?=some r:=⟨_,List.getElem?_eq_getElem (by rw [HX.o.q.fl];exact hlt)⟩
     obtain ⟨rb,hrb⟩:∃ r,A.rows[k]?=some r:=⟨_,List.getElem?_eq_getElem (by rw [HX.o.q.fl];omega)⟩
     have HE:=hI (firmOneL_1 HO.o hlk hla hlb)
     have RA:=hI (HX.o.q.fi i ra la hra hla)
     have RB:=hI (HX.o.q.fi k rb lb hrb hlb)
     obtain ⟨fb,hfp,-,-,-,-,-⟩:=row_at1 HX.o.q.fo (fmRow_at _ _ _ _ _ hra hla)
     have HFP:=hI hfp
     have FA:∀ {w':World},LwV w' o lw A L→w'.cell? ⟨fb,i,none⟩=some (.slice ra.1 la.length ra.2):=fun h=>by
      obtain ⟨b',h1,-,-,h2,-,-⟩:=row_at1 h.q.fo (fmRow_at _ _ _ _ _ hra hla)
      rw [hfp] at h1
      cases h1
      exact h2
     have FB:∀ {w':World},LwV w' o lw A L→w'.cell? ⟨fb,k,none⟩=some (.slice rb.1 lb.length rb.2):=fun h=>by
      obtain ⟨b',h1,-,-,h2,-,-⟩:=row_at1 h.q.fo (fmRow_at _ _ _ _ _ hrb hlb)
      rw [hfp] at h1
      cases h1
      exact h2
     have GA:=hI (fun (w':World) (h:LwV w' o lw A L)=>FA h)
     have GB:=hI (fun (w':World) (h:LwV w' o lw A L)=>FB h)
     have lea:la.length≤ra.2:=RA.o.row.sl.le
     have leb:lb.length≤rb.2:=RB.o.row.sl.le
     clear FA FB hla hlb hra hrb hfp
     obtain ⟨ra1,ra2⟩:=ra
     obtain ⟨rb1,rb2⟩:=rb
     obtain ⟨mn,hmn⟩:∃ mn,mn=min la.length lb.length:=⟨_,rfl⟩
     have HMN:=hI hmn
     have hmin:=run_min (P:=Tryz.prog) la.length lb.length mn hmn
     have mle:mn≤la.length∧mn≤lb.length:=by omega
     clear hmn
     have cutA:=encut_to ra1 la.length ra2 mn (by omega)
     have cutB:=encut_to rb1 lb.length rb2 mn (by omega)
     go_upto_region 7 with fail
     obtain ⟨W7,hW⟩:∃ W7,W7=wr.drew:=⟨_,rfl⟩
     have X7:Hid (Ext wr W7):=hI (by rw [hW];exact Ext.drew wr)
     replace HX:=hI (HX.o.ext X7.o)
     have g2:∀ d os,(grow (redrawn W7 d) os).cell? ⟨lw,2,none⟩=some (.slice (some ⟨fb,0,none⟩) L.fm.length A.fc):=fun d os=>Ext.cell (Ext.reg W7 d os) (by have:=HX.o.box.box.c 2 _ rfl;rw [HFP.o] at this;exact this)
     have ga:=fun d os=>Ext.cell (Ext.reg W7 d os) (GA.o W7 HX.o)
     have gb:=fun d os=>Ext.cell (Ext.reg W7 d os) (GB.o W7 HX.o)
     refine att [0,1,2,3,4,5,6,7,8,9,10,11,12,13,14,15,16,17] [] ?_
     rw [← hW]
     clear hW
     repeat ((first|refine aqq fun K hK=>?_|refine akk fun K hK=>?_);go_big_quiet_op;refine hK _ ?_;clear hK K)
     refine ra_nil ?_
     refine rt_nil ?_
     replace RA:=hI (RA.o.ext X7.o)
     replace RB:=hI (RB.o.ext X7.o)
     replace X:=hI (X.o.tr X7.o)
     clear X7 g2 ga gb
     go_upto_region 8 with fail
     obtain ⟨W8,hW⟩:∃ W8,W8=W7.drew:=⟨_,rfl⟩
     have X8:Hid (Ext W7 W8):=hI (by rw [hW];exact Ext.drew W7)
     replace HX:=hI (HX.o.ext X8.o)
     replace RA:=hI (RA.o.ext X8.o)
     replace RB:=hI (RB.o.ext X8.o)
     have g2:∀ d os,(grow (redrawn W8 d) os).cell? ⟨lw,2,none⟩=some (.slice (some ⟨fb,0,none⟩) L.fm.length A.fc):=fun d os=>Ext.cell (Ext.reg W8 d os) (by have:=HX.o.box.box.c 2 _ rfl;rw [HFP.o] at this;exact this)
     have ga:=fun d os=>Ext.cell (Ext.reg W8 d os) (GA.o W8 HX.o)
     have gb:=fun d os=>Ext.cell (Ext.reg W8 d os) (GB.o W8 HX.o)
     refine att [0,1,2,3,4,5,6,7,8,9,10,11,12,13,14,15,16,17,18,19] [] ?_
     rw [← hW]
     clear hW
     repeat ((first|refine aqq fun K hK=>?_|refine akk fun K hK=>?_);go_big_quiet_op;refine hK _ ?_;clear hK K)
     have SA:=RA.o.row.sl.take mn mle.1
     have SB:=RB.o.row.sl.take mn mle.2
     rw [← List.map_take] at SA SB
     refine acc fun K hK=>?_
     go_simp
     refine (eqall_any SA SB).mono ?_
     have heq:eqL (la.take mn) (lb.take mn)=true:=by rw [HMN.o];exact HE.o
     rw [heq]
     rintro e w9 ⟨rfl,x9⟩
     have XE:=hI ((X.o.tr X8.o).tr x9)
     refine hK _ _ x9 ?_
     clear hK K SA SB heq x9 X X8 HX RA RB g2 ga gb
     repeat ((first|refine aqq fun K hK=>?_|refine akk fun K hK=>?_);go_big_quiet_op;refine hK _ ?_;clear hK K)
     refine ra_nil ?_
     refine rt_nil ?_
     go_wp2
     go_roundw
     case rel=>exact ⟨k+1,by omega,by go_num,XE.o⟩
     case measure=>simp [intOf];omega
    ·have e6:decide ((k:Int)<(i:Int))=false:=decide_eq_false (by omega)
     have e6n:decide (k<i)=false:=decide_eq_false hlk
     go_wp2
     go_roundw
     case rel=>exact ⟨i+1,by omega,by go_num,X.o⟩
     case measure=>simp [intOf];omega
  ·have e5:decide ((i:Int)<(L.fm.length:Int))=false:=decide_eq_false (by omega)
   have e5n:decide (i<L.fm.length)=false:=decide_eq_false hlt
   clear hi hlt
   go_wp2
   clear e5 e5n c2 HX
   go_loopw [6] (fun a wx=>∃ i:Nat,i≤L.vs.length∧a=.int .i64 (i:Int)∧Ext w wx) (fun a _=>L.vs.length-(intOf a).toNat)
   case atStart=>exact ⟨0,by omega,rfl,X.o⟩
   case round=>
    clear X
    obtain ⟨i,hi,rfl,xx⟩:=hrel
    have X:=hI xx
    have HX:=hI (H.o.ext xx)
    clear xx
    have c6:wr.cell? ⟨lw,20,none⟩=some (.slice A.vp L.vs.length A.vc):=HX.o.box.box.c 20 _ rfl
    by_cases hlt:i<L.vs.length
    ·have e5:decide ((i:Int)<(L.vs.length:Int))=true:=decide_eq_true (by omega)
     have e5n:decide (i<L.vs.length)=true:=decide_eq_true hlt
     have f1:(0:Int)≤(i:Int):=by omega
     have f2:(i:Int)<(L.vs.length:Int):=by omega
     obtain ⟨vb,voo,vx,hvp,hvx,v0,v1,v2⟩:=in_at HX.o.q.vo.row.sl i hlt
     have HVP:=hI hvp
     have HVX:=hI hvx
     have HMT:=hI (firmOneL_2 HO.o hvx)
     obtain ⟨y1,y2,y3⟩:=vx
     simp only at v0 v1 v2
     rw [hvp] at c6
     clear hvp hvx
     go_upto_region 13 with fail
     obtain ⟨W13,hW⟩:∃ W13,W13=wr.drew:=⟨_,rfl⟩
     have X13:Hid (Ext wr W13):=hI (by rw [hW];exact Ext.drew wr)
     replace HX:=hI (HX.o.ext X13.o)
     have g6:=fun d os=>Ext.cell (Ext.reg W13 d os) (Ext.cell X13.o c6)
     have gv1:=fun d os=>Ext.cell (Ext.reg W13 d os) (Ext.cell X13.o v1)
     have g1:=fun d os=>Ext.cell (Ext.reg W13 d os) (HX.o.box.box.c 1 _ rfl)
     refine att [0,1,2,3,4,5,6,7,8,9,10,11,12,13] [] ?_
     rw [← hW]
     clear hW
     repeat ((first|refine aqq fun K hK=>?_|refine akk fun K hK=>?_);go_big_quiet_op;refine hK _ ?_;clear hK K)
     refine acc fun K hK=>?_
     go_simp
     refine (trmost_any y2 L.n HMT.o.1 hn7 W13).mono ?_
     rw [HMT.o.2]
     rintro e w14 ⟨rfl,x14⟩
     have XE:=hI ((X.o.tr X13.o).tr x14)
     refine hK _ _ x14 ?_
     clear hK K x14 X13 X g6 gv1 g1 HX v0 v1 v2 c6
     repeat ((first|refine aqq fun K hK=>?_|refine akk fun K hK=>?_);go_big_quiet_op;refine hK _ ?_;clear hK K)
     refine ra_nil ?_
     refine rt_nil ?_
     go_wp2
     go_loopw [7] (fun b wx=>∃ k:Nat,k≤i∧b=.int .i64 (k:Int)∧Ext w wx) (fun b _=>i-(intOf b).toNat)
     case atStart=>exact ⟨0,by omega,rfl,XE.o⟩
     case round=>
      clear XE
      obtain ⟨k,hk,rfl,xx⟩:=hrel
      have X:=hI xx
      have HX:=hI (H.o.ext xx)
      clear xx
      by_cases hlk:k<i
      ·have e6:decide ((k:Int)<(i:Int))=true:=decide_eq_true (by omega)
       have e6n:decide (k<i)=true:=decide_eq_true hlk
       have f3:(0:Int)≤(k:Int):=by omega
       have f4:(k:Int)<(L.vs.length:Int):=by omega
       obtain ⟨vb2,voo2,vx2,hvp2,hvx2,u0,u1,u2⟩:=in_at HX.o.q.vo.row.sl k (by omega)
       obtain ⟨vb3,voo3,vx3,hvp3,hvx3,t0,t1,t2⟩:=in_at HX.o.q.vo.row.sl i hlt
       rw [HVP.o] at hvp2 hvp3
       cases hvp2
       cases hvp3
       rw [HVX.o] at hvx3
       cases hvx3
       have gne:(y1==vx2.1)=false:=firmOneL_3 HO.o hlk HVX.o hvx2
       obtain ⟨z1,z2,z3⟩:=vx2
       simp only at u0 u1 u2 t0 t1 t2 gne
       clear hvx2
       go_upto_region 18 with fail
       obtain ⟨W18,hW⟩:∃ W18,W18=wr.drew:=⟨_,rfl⟩
       have X18:Hid (Ext wr W18):=hI (by rw [hW];exact Ext.drew wr)
       replace HX:=hI (HX.o.ext X18.o)
       have g6:∀ d os,(grow (redrawn W18 d) os).cell? ⟨lw,20,none⟩=some (.slice (some ⟨vb,voo,none⟩) L.vs.length A.vc):=fun d os=>Ext.cell (Ext.reg W18 d os) (by have:=HX.o.box.box.c 20 _ rfl;rw [HVP.o] at this;exact this)
       have gt0:=fun d os=>Ext.cell (Ext.reg W18 d os) (Ext.cell X18.o t0)
       have gu0:=fun d os=>Ext.cell (Ext.reg W18 d os) (Ext.cell X18.o u0)
       refine att [0,1,2,3,4,5,6,7,8,9,10,11,12,13,14,15,16] [] ?_
       rw [← hW]
       clear hW
       repeat ((first|refine aqq fun K hK=>?_|refine akk fun K hK=>?_);go_big_quiet_op;refine hK _ ?_;clear hK K)
       refine ra_nil ?_
       refine rt_nil ?_
       have XE:=hI (X.o.tr X18.o)
       clear X18 X g6 gt0 gu0 HX u0 u1 u2 t0 t1 t2
       go_wp2
       go_roundw
       case rel=>exact ⟨k+1,by omega,by go_num,XE.o⟩
       case measure=>simp [intOf];omega
      ·have e6:decide ((k:Int)<(i:Int))=false:=decide_eq_false (by omega)
       have e6n:decide (k<i)=false:=decide_eq_false hlk
       go_wp2
       go_roundw
       case rel=>exact ⟨i+1,by omega,by go_num,X.o⟩
       case measure=>simp [intOf];omega
    ·have e5:decide ((i:Int)<(L.vs.length:Int))=false:=decide_eq_false (by omega)
     have e5n:decide (i<L.vs.length)=false:=decide_eq_false hlt
     clear hi hlt
     go_wp2
     clear e5 e5n c6 HX
     go_loopw [8] (fun a wx=>∃ i:Nat,1≤i∧i≤L.n+1∧a=.int .i64 (i:Int)∧Ext w wx) (fun a _=>L.n+1-(intOf a).toNat)
     case atStart=>exact ⟨1,by omega,by omega,rfl,X.o⟩
     case round=>
      clear X
      obtain ⟨a,ha1,ha2,rfl,xx⟩:=hrel
      have X:=hI xx
      have HX:=hI (H.o.ext xx)
      clear xx
      have c1:wr.cell? ⟨lw,1,none⟩=some (.int .i64 (L.n:Int)):=HX.o.box.box.c 1 _ rfl
      by_cases hlt:a≤L.n
      ·have e5:decide ((a:Int)≤(L.n:Int))=true:=decide_eq_true (by omega)
       have e5n:decide (a≤L.n)=true:=decide_eq_true hlt
       have f1:(0:Int)≤(a:Int):=by omega
       have f2:(a:Int)<8:=by omega
       go_wp2
       go_loopw [9] (fun b wx=>∃ k:Nat,1≤k∧k≤a∧b=.int .i64 (k:Int)∧Ext w wx) (fun b _=>a-(intOf b).toNat)
       case atStart=>exact ⟨1,by omega,by omega,rfl,X.o⟩
       case round=>
        clear X c1
        obtain ⟨b,hb1,hb2,rfl,xx⟩:=hrel
        have X:=hI xx
        have HX:=hI (H.o.ext xx)
        clear xx
        by_cases hlb:b<a
        ·have e6:decide ((b:Int)<(a:Int))=true:=decide_eq_true (by omega)
         have e6n:decide (b<a)=true:=decide_eq_true hlb
         have f3:(0:Int)≤(b:Int):=by omega
         have f4:(b:Int)<8:=by omega
         have HI:Hid (1≤a∧a≤L.W.n):=hI (by rw [HX.o.q.nn];omega)
         have HJ:Hid (1≤b∧b≤L.W.n):=hI (by rw [HX.o.q.nn];omega)
         have HLB:=hI hlb
         have HLA:=hI hlt
         obtain ⟨sa,hsa,-⟩:=HX.o.q.wr.sl a HI.o.1 HI.o.2
         obtain ⟨sb,hsb,-⟩:=HX.o.q.wr.sl b HJ.o.1 HJ.o.2
         have HSA:=hI hsa
         have HSB:=hI hsb
         clear hsa hsb
         go_upto_region 26 with fail
         cases sa with
         | dn bt dv=>
          cases sb with
          | dn bt2 dv2=>
           obtain ⟨W26,hW⟩:∃ W26,W26=wr.drew:=⟨_,rfl⟩
           have X26:Hid (Ext wr W26):=hI (by rw [hW];exact Ext.drew wr)
           replace HX:=hI (HX.o.ext X26.o)
           have g0:=fun d os=>Ext.cell (Ext.reg W26 d os) (HX.o.box.box.c 0 _ rfl)
           refine att [0,1,2,3,4,6,7,8,9,10,5,11,12,13] [] ?_
           rw [← hW]
           clear hW
           repeat ((first|refine aqq fun K hK=>?_|refine akk fun K hK=>?_);go_big_quiet_op;refine hK _ ?_;clear hK K)
           refine acc fun K hK=>?_
           go_simp
           refine (wnode_dn HX.o.q.wr HI.o HSA.o).mono ?_
           rintro e w9 ⟨rfl,rfl⟩
           refine hK _ _ (Ext.rfl' _) ?_;clear hK K
           repeat ((first|refine aqq fun K hK=>?_|refine akk fun K hK=>?_);go_big_quiet_op;refine hK _ ?_;clear hK K)
           refine acc fun K hK=>?_
           go_simp
           refine (wnode_dn HX.o.q.wr HJ.o HSB.o).mono ?_
           rintro e w9 ⟨rfl,rfl⟩
           refine hK _ _ (Ext.rfl' _) ?_;clear hK K
           repeat ((first|refine aqq fun K hK=>?_|refine akk fun K hK=>?_);go_big_quiet_op;refine hK _ ?_;clear hK K)
           refine ra_nil ?_
           refine rt_nil ?_
           replace X:=hI (X.o.tr X26.o)
           clear X26 g0
           go_wp2
           go_roundw
           case rel=>exact ⟨b+1,by omega,by omega,by go_num,X.o⟩
           case measure=>simp [intOf];omega
          | up y=>
           obtain ⟨W26,hW⟩:∃ W26,W26=wr.drew:=⟨_,rfl⟩
           have X26:Hid (Ext wr W26):=hI (by rw [hW];exact Ext.drew wr)
           replace HX:=hI (HX.o.ext X26.o)
           have g0:=fun d os=>Ext.cell (Ext.reg W26 d os) (HX.o.box.box.c 0 _ rfl)
           refine att [0,1,2,3,4,6,7,8,9,10,5,11,12,13] [] ?_
           rw [← hW]
           clear hW
           repeat ((first|refine aqq fun K hK=>?_|refine akk fun K hK=>?_);go_big_quiet_op;refine hK _ ?_;clear hK K)
           refine acc fun K hK=>?_
           go_simp
           refine (wnode_dn HX.o.q.wr HI.o HSA.o).mono ?_
           rintro e w9 ⟨rfl,rfl⟩
           refine hK _ _ (Ext.rfl' _) ?_;clear hK K
           repeat ((first|refine aqq fun K hK=>?_|refine akk fun K hK=>?_);go_big_quiet_op;refine hK _ ?_;clear hK K)
           refine acc fun K hK=>?_
           go_simp
           refine (wnode_up HX.o.q.wr HJ.o HSB.o).mono ?_
           rintro e w9 ⟨xb,cb,AB,rfl,-,-,nb,-,-,-,rfl⟩
           have NB:=hI nb
           clear nb
           refine hK _ _ (Ext.rfl' _) ?_;clear hK K
           repeat ((first|refine aqq fun K hK=>?_|refine akk fun K hK=>?_);go_big_quiet_op;refine hK _ ?_;clear hK K)
           refine ra_nil ?_
           refine rt_nil ?_
           replace X:=hI (X.o.tr X26.o)
           clear X26 g0
           go_wp2
           go_roundw
           case rel=>exact ⟨b+1,by omega,by omega,by go_num,X.o⟩
           case measure=>simp [intOf];omega
         | up x=>
          cases sb with
          | dn bt dv=>
           obtain ⟨W26,hW⟩:∃ W26,W26=wr.drew:=⟨_,rfl⟩
           have X26:Hid (Ext wr W26):=hI (by rw [hW];exact Ext.drew wr)
           replace HX:=hI (HX.o.ext X26.o)
           have g0:=fun d os=>Ext.cell (Ext.reg W26 d os) (HX.o.box.box.c 0 _ rfl)
           refine att [0,1,2,3,4,6,7,8,9,10,5,11,12,13] [] ?_
           rw [← hW]
           clear hW
           repeat ((first|refine aqq fun K hK=>?_|refine akk fun K hK=>?_);go_big_quiet_op;refine hK _ ?_;clear hK K)
           refine acc fun K hK=>?_
           go_simp
           refine (wnode_up HX.o.q.wr HI.o HSA.o).mono ?_
           rintro e w9 ⟨xa,ca,AA,rfl,-,-,na,-,-,-,rfl⟩
           have NA:=hI na
           clear na
           refine hK _ _ (Ext.rfl' _) ?_;clear hK K
           repeat ((first|refine aqq fun K hK=>?_|refine akk fun K hK=>?_);go_big_quiet_op;refine hK _ ?_;clear hK K)
           refine acc fun K hK=>?_
           go_simp
           refine (wnode_dn HX.o.q.wr HJ.o HSB.o).mono ?_
           rintro e w9 ⟨rfl,rfl⟩
           refine hK _ _ (Ext.rfl' _) ?_;clear hK K
           repeat ((first|refine aqq fun K hK=>?_|refine akk fun K hK=>?_);go_big_quiet_op;refine hK _ ?_;clear hK K)
           refine ra_nil ?_
           refine rt_nil ?_
           replace X:=hI (X.o.tr X26.o)
           clear X26 g0
           go_wp2
           go_roundw
           case rel=>exact ⟨b+1,by omega,by omega,by go_num,X.o⟩
           case measure=>simp [intOf];omega
          | up y=>
           obtain ⟨W26,hW⟩:∃ W26,W26=wr.drew:=⟨_,rfl⟩
           have X26:Hid (Ext wr W26):=hI (by rw [hW];exact Ext.drew wr)
           replace HX:=hI (HX.o.ext X26.o)
           have g0:=fun d os=>Ext.cell (Ext.reg W26 d os) (HX.o.box.box.c 0 _ rfl)
           refine att [0,1,2,3,4,6,7,8,9,10,5,11,12,13] [] ?_
           rw [← hW]
           clear hW
           repeat ((first|refine aqq fun K hK=>?_|refine akk fun K hK=>?_);go_big_quiet_op;refine hK _ ?_;clear hK K)
           refine acc fun K hK=>?_
           go_simp
           refine (wnode_up HX.o.q.wr HI.o HSA.o).mono ?_
           rintro e w9 ⟨xa,ca,AA,rfl,-,-,na,-,-,-,rfl⟩
           have NA:=hI na
           clear na
           refine hK _ _ (Ext.rfl' _) ?_;clear hK K
           repeat ((first|refine aqq fun K hK=>?_|refine akk fun K hK=>?_);go_big_quiet_op;refine hK _ ?_;clear hK K)
           refine acc fun K hK=>?_
           go_simp
           refine (wnode_up HX.o.q.wr HJ.o HSB.o).mono ?_
           rintro e w9 ⟨xb,cb,AB,rfl,-,-,nb,-,-,-,rfl⟩
           have NB:=hI nb
           clear nb
           refine hK _ _ (Ext.rfl' _) ?_;clear hK K
           repeat ((first|refine aqq fun K hK=>?_|refine akk fun K hK=>?_);go_big_quiet_op;refine hK _ ?_;clear hK K)
           refine ra_nil ?_
           refine rt_nil ?_
           replace X:=hI (X.o.tr X26.o)
           clear X26 g0
           have HLG:=hI (firmOneL_4 HO.o hb1 HLB.o HLA.o HSA.o HSB.o)
           obtain ⟨ca1,hca⟩:∃ c:Nat,x.cm=(c:Int):=⟨x.cm.toNat,by have:=NA.o.ok.cm;omega⟩
           obtain ⟨cb1,hcb⟩:∃ c:Nat,y.cm=(c:Int):=⟨y.cm.toNat,by have:=NB.o.ok.cm;omega⟩
           obtain ⟨mn,hmn⟩:∃ mn,mn=min ca1 cb1:=⟨_,rfl⟩
           have HG2:Hid (ca1≤x.L.length∧cb1≤y.L.length∧eqL (x.L.take mn) (y.L.take mn)=true):=hI (by
            have h:=HLG.o
            unfold logsB at h
            rw [hca,hcb] at h
            simp only [Int.toNat_natCast,Bool.and_eq_true,decide_eq_true_eq] at h
            rw [hmn]
            exact ⟨by omega,by omega,h.2⟩)
           have CA:=hI (ncommit_any NA.o)
           have CB:=hI (ncommit_any NB.o)
           rw [hca] at CA
           rw [hcb] at CB
           have hmin:=run_min (P:=Tryz.prog) ca1 cb1 mn hmn
           have mle:mn≤x.L.length∧mn≤y.L.length:=by have:=HG2.o;omega
           clear HLG hca hcb hmn
           go_wp2_with fail
           refine CA.o.mono ?_
           rintro e w9 ⟨rfl,rfl⟩
           go_wp2_with fail
           refine CB.o.mono ?_
           rintro e w9 ⟨rfl,rfl⟩
           clear CA CB
           go_upto_region 29 with fail
           clear hmin
           obtain ⟨W29,hW⟩:∃ W29,W29=W26.drew:=⟨_,rfl⟩
           have X29:Hid (Ext W26 W29):=hI (by rw [hW];exact Ext.drew W26)
           replace NA:=hI (NA.o.ext X29.o)
           replace NB:=hI (NB.o.ext X29.o)
           refine att [0,2,4,6,1,3,5,7,8,9] [] ?_
           rw [← hW]
           clear hW
           repeat ((first|refine aqq fun K hK=>?_|refine akk fun K hK=>?_);go_big_quiet_op;refine hK _ ?_;clear hK K)
           refine acc fun K hK=>?_
           go_simp
           refine (nlog_any NA.o).mono ?_
           rintro e w30 ⟨p1,k1,rfl,ow1,x30⟩
           have S1:=hI ow1.sl
           have cutA:=encut_to p1 x.L.length k1 mn (by have:=ow1.sl.le;omega)
           replace NB:=hI (NB.o.ext x30)
           replace X:=hI ((X.o.tr X29.o).tr x30)
           refine hK _ _ x30 ?_
           clear hK K ow1 x30 X29 NA
           repeat ((first|refine aqq fun K hK=>?_|refine akk fun K hK=>?_);go_big_quiet_op;refine hK _ ?_;clear hK K)
           refine acc fun K hK=>?_
           go_simp
           refine (nlog_any NB.o).mono ?_
           rintro e w31 ⟨p2,k2,rfl,ow2,x31⟩
           replace S1:=hI (S1.o.ext x31)
           have S2:=hI ow2.sl
           have cutB:=encut_to p2 y.L.length k2 mn (by have:=ow2.sl.le;omega)
           replace X:=hI (X.o.tr x31)
           refine hK _ _ x31 ?_
           clear hK K ow2 x31 NB
           repeat ((first|refine aqq fun K hK=>?_|refine akk fun K hK=>?_);go_big_quiet_op;refine hK _ ?_;clear hK K)
           have SA:=S1.o.take mn mle.1
           have SB:=S2.o.take mn mle.2
           rw [← List.map_take] at SA SB
           refine acc fun K hK=>?_
           go_simp
           refine (eqall_any SA SB).mono ?_
           rw [HG2.o.2.2]
           rintro e w32 ⟨rfl,x32⟩
           replace X:=hI (X.o.tr x32)
           refine hK _ _ x32 ?_
           clear hK K SA SB x32 S1 S2
           repeat ((first|refine aqq fun K hK=>?_|refine akk fun K hK=>?_);go_big_quiet_op;refine hK _ ?_;clear hK K)
           refine ra_nil ?_
           refine rt_nil ?_
           go_wp2
           go_roundw
           case rel=>exact ⟨b+1,by omega,by omega,by go_num,X.o⟩
           case measure=>simp [intOf];omega
        ·have e6:decide ((b:Int)<(a:Int))=false:=decide_eq_false (by omega)
         have e6n:decide (b<a)=false:=decide_eq_false hlb
         go_wp2
         go_roundw
         case rel=>exact ⟨a+1,by omega,by omega,by go_num,X.o⟩
         case measure=>simp [intOf];omega
      ·have e5:decide ((a:Int)≤(L.n:Int))=false:=decide_eq_false (by omega)
       have e5n:decide (a≤L.n)=false:=decide_eq_false hlt
       go_wp2
       go_ret
       exact ⟨rfl,X.o⟩
end
section
open Go Go.Sort Go.RowKit
def castB (c e:EnD):Bool:=sameB c e&&(decide (c.od=e.od)&&(decide (c.lv=e.lv)&&decide (c.da=e.da)))
def saidB (L:LwD) (s:NdD):Bool:=pairsB s.T.length (fun i k=>match s.T[i]?,s.T[k]? with
 | some a,some b=>!sameB a.e b.e
 | _,_=>false)&&s.T.all fun t=>L.cs.any fun c=>castB c t.e
def quietB (s:NdD):Bool:=s.kn || (s.T.length==0&&(!inV s&&!goodN s))
def dkD:SlotD→Int × Int
 | .up s=>(s.bt,s.dv)
 | .dn bt dv=>(bt,dv)
def saysB (L:LwD):SlotD→Bool
 | .up s=>quietB s&&saidB L s
 | .dn _ _=>true
def onceS (L:LwD) (i:Nat):Option LwD:=match L.W.sl[i-1]? with
 | none=>none
 | some sd=>if !decide ((dkD sd).1<L.bo.at i)&&(!decide ((dkD sd).2<L.vi.at i)&&saysB L sd) then some { L with bo:=L.bo.set i (dkD sd).1,vi:=L.vi.set i (dkD sd).2 } else none
def onceL (L:LwD):Option LwD:=foldO onceS (List.range' 1 L.n) L
theorem saidB_1 {L:LwD} {s:NdD} (h:saidB L s=true) {i k:Nat} {a b:TdD} (hk:k<i) (ha:s.T[i]?=some a) (hb:s.T[k]?=some b):sameB a.e b.e=false:=by
 unfold saidB at h
 rw [Bool.and_eq_true] at h
 have:=pairsB_at h.1 (List.getElem?_eq_some_iff.1 ha).1 hk
 rw [ha,hb] at this
 simpa using this
theorem saidB_2 {L:LwD} {s:NdD} (h:saidB L s=true) {i:Nat} {a:TdD} (ha:s.T[i]?=some a):(L.cs.any fun c=>castB c a.e)=true:=by
 unfold saidB at h
 rw [Bool.and_eq_true] at h
 exact List.all_eq_true.1 h.2 a (List.mem_of_getElem? ha)
variable {w w4:World} {o o4:Ow} {lw:Nat} {A A':LwA} {L L':LwD}
theorem WrV.disk {wb g:Nat} {W:WrD} (h:WrV w o wb g W) {i:Nat} {sd:SlotD} (hi:1≤i∧i≤W.n) (hs:W.sl[i-1]?=some sd):DkV w o (32 * i+13) wb (1+i * 4+2) (dkD sd).1 (dkD sd).2:=by
 cases sd with
 | up s=>
  obtain ⟨x,c,A,-,-,nd,-⟩:=h.up hi hs
  exact nd.q.dk
 | dn bt dv=>exact (h.dn hi hs).2.2.1
theorem lonce_any (hcl:Cl w o) (h:LwV w o lw A L) (hs:onceL L=some L') :
  Calls Tryz.prog 31 #[ptrN lw] w fun e w'=>e=.returned (.bool true)∧∃ o' A',LwV w' o' lw A' L'∧Fm lwC o o' w w':=by
 have H:=hI h
 have HS:=hI hs
 have M0:=hI (Fm.refl (C:=lwC) hcl)
 have hn7:=h.n7
 clear hcl h hs
 go_enter Tryz.func31,Tryz.ntmps31
 go_wp2
 go_loopw [3] (fun i wr=>∃ (a:Nat) (La:LwD),1≤a∧a≤L.n+1∧i=.int .i64 (a:Int)∧LwV wr o lw A La∧foldO onceS (List.range' a (L.n+1-a)) La=some L'∧La.n=L.n∧Fm lwC o o w wr) (fun i _=>L.n+1-(intOf i).toNat)
 case atStart=>exact ⟨1,L,by omega,by omega,rfl,H.o,by rw [Nat.add_sub_cancel];exact HS.o,rfl,M0.o⟩
 case round=>
  obtain ⟨a,La,ha1,ha2,rfl,hv,hf,hna,ma⟩:=hrel
  have HA:=hI hv
  have HFA:=hI hf
  have HNA:=hI hna
  have MA:=hI ma
  clear hv hf hna ma H HS M0
  have c1:=HA.o.box.box.c 1 _ rfl
  rw [HNA.o] at c1
  have c0:=HA.o.box.box.c 0 _ rfl
  by_cases hlt2:a≤L.n
  ·have e3:decide ((a:Int)≤(L.n:Int))=true:=decide_eq_true (by omega)
   have e3n:decide (a≤L.n)=true:=decide_eq_true hlt2
   have hr:=HFA.o
   rw [show L.n+1-a=(L.n+1-(a+1))+1 by omega,List.range'_succ] at hr
   obtain ⟨Lb,ht,hrest⟩:=foldO_cons hr
   have HRB:=hI hrest
   have HAI:Hid (1≤a∧a≤La.W.n):=hI ⟨ha1,by rw [HA.o.q.nn,HNA.o];exact hlt2⟩
   have f1:(0:Int)≤(a:Int):=by omega
   have f2:(a:Int)<8:=by omega
   have ha8:a<8:=by omega
   unfold onceS at ht
   split at ht
   case h_1=>cases ht
   rename_i sd hsd
   split at ht
   case isFalse=>cases ht
   rename_i hck
   simp only [Bool.and_eq_true,Bool.not_eq_true'] at hck
   obtain ⟨e7,e8,hsy⟩:=hck
   have HSY:=hI hsy
   have HLB:=hI (Option.some.inj ht)
   have HSD:=hI hsd
   have DK:=hI (HA.o.q.wr.disk HAI.o hsd)
   have HNB:Hid (Lb.n=L.n):=hI (by rw [← HLB.o];exact HNA.o)
   obtain ⟨bt,hbt⟩:∃ z,(dkD sd).1=z:=⟨_,rfl⟩
   obtain ⟨dv,hdv⟩:∃ z,(dkD sd).2=z:=⟨_,rfl⟩
   rw [hbt] at e7 DK HLB
   rw [hdv] at e8 DK HLB
   clear hr ht hrest HFA hsd hsy hbt hdv
   go_wp2_with fail
   refine (wdisk_any HA.o.q.wr HAI.o).mono ?_
   rintro e w9 ⟨rfl,rfl⟩
   go_upto_region 5 with fail
   clear c0 c1
   obtain ⟨W5,hW⟩:∃ W5,W5=wr.drew:=⟨_,rfl⟩
   have X5:Hid (Ext wr W5):=hI (by rw [hW];exact Ext.drew wr)
   replace HA:=hI (HA.o.ext X5.o)
   replace DK:=hI (DK.o.ext X5.o)
   have gb:=fun d os=>Ext.cell (Ext.reg W5 d os) (HA.o.box.box.c (22+a) _ (lwL_bo ha8))
   have gv:=fun d os=>Ext.cell (Ext.reg W5 d os) (HA.o.box.box.c (30+a) _ (lwL_vi ha8))
   refine att [0,2,3,4,5,6,7,1,8,9,10,12,13,14,15,16,17,11,18,19] [] ?_
   rw [← hW]
   clear hW
   repeat ((first|refine aqq fun K hK=>?_|refine akk fun K hK=>?_);go_big_quiet_op;refine hK _ ?_;clear hK K)
   refine acc fun K hK=>?_
   go_simp
   refine (dboot_any DK.o).mono ?_
   rintro e w9 ⟨rfl,rfl⟩
   refine hK _ _ (Ext.rfl' _) ?_;clear hK K
   repeat ((first|refine aqq fun K hK=>?_|refine akk fun K hK=>?_);go_big_quiet_op;refine hK _ ?_;clear hK K)
   refine acc fun K hK=>?_
   go_simp
   refine (dview_any DK.o).mono ?_
   rintro e w9 ⟨rfl,rfl⟩
   refine hK _ _ (Ext.rfl' _) ?_;clear hK K
   repeat ((first|refine aqq fun K hK=>?_|refine akk fun K hK=>?_);go_big_quiet_op;refine hK _ ?_;clear hK K)
   refine ra_nil ?_
   refine rt_nil ?_
   replace MA:=hI (MA.o.tr (Fm.ext MA.o.cl X5.o) lw0)
   clear X5 gb gv
   go_upto_region 7 with fail
   clear e7 e8
   obtain ⟨W7,hW⟩:∃ W7,W7=W5.drew:=⟨_,rfl⟩
   have X7:Hid (Ext W5 W7):=hI (by rw [hW];exact Ext.drew W5)
   replace HA:=hI (HA.o.ext X7.o)
   replace DK:=hI (DK.o.ext X7.o)
   refine gtt [0,1,2,3,4,6,8,9,12,13,5,7,10,11,14,15] (CL []) (by exact trivial) (fun _=>?_)
   rw [← hW]
   clear hW
   repeat ((first|refine gqq fun K hK=>?_|refine gkk fun K hK=>?_);go_big_quiet_op;refine hK _ ?_;clear hK K)
   refine gcc fun K hK=>?_
   go_simp
   refine (dboot_any DK.o).mono ?_
   rintro e w9 ⟨rfl,rfl⟩
   refine hK (CL []) _ _ (fun _ h=>h) trivial (fun _=>?_)
   clear hK K
   repeat ((first|refine gqq fun K hK=>?_|refine gkk fun K hK=>?_);go_big_quiet_op;refine hK _ ?_;clear hK K)
   refine gcc fun K hK=>?_
   go_simp
   refine (dview_any DK.o).mono ?_
   rintro e w9 ⟨rfl,rfl⟩
   refine hK (CL []) _ _ (fun _ h=>h) trivial (fun _=>?_)
   clear hK K
   repeat ((first|refine gqq fun K hK=>?_|refine gkk fun K hK=>?_);go_big_quiet_op;refine hK _ ?_;clear hK K)
   have cb:=HA.o.box.box.c (22+a) _ (lwL_bo ha8)
   have cv:=HA.o.box.box.c (30+a) _ (lwL_vi ha8)
   have fb:=HA.o.box.box.f (22+a)
   have fv:=HA.o.box.box.f (30+a)
   obtain ⟨h6,m6⟩:=HA.o.put (MA.o.cl.ext X7.o) (22+a) (.int .i64 bt) (lwL_sbo ha8) (fun q=>⟨q.wr,q.nn,q.fo,q.fl,q.fi,q.so,q.vo,q.co,q.mx⟩)
   obtain ⟨h8,m8⟩:=h6.put m6.cl (30+a) (.int .i64 dv) (lwL_svi ha8) (fun q=>⟨q.wr,q.nn,q.fo,q.fl,q.fi,q.so,q.vo,q.co,q.mx⟩)
   rw [HLB.o] at h8
   have H8:=hI h8
   have M8:=hI (((MA.o.tr (Fm.ext MA.o.cl X7.o) lw0).tr m6 lw0).tr m8 lw0)
   refine gcc fun K hK=>?_
   go_simp
   refine hK (CL []) _ _ (fun _ h=>h) trivial (fun _=>?_)
   clear hK K
   repeat ((first|refine gqq fun K hK=>?_|refine gkk fun K hK=>?_);go_big_quiet_op;refine hK _ ?_;clear hK K)
   refine gcc fun K hK=>?_
   go_simp
   refine hK (CL []) _ _ (fun _ h=>h) trivial (fun _=>?_)
   clear hK K h6 m6 h8 m8 cb cv fb fv HA DK MA X7
   refine rg_nil ?_
   generalize (W7.setCell ⟨lw,22+a,none⟩ (.int .i64 bt)).setCell ⟨lw,30+a,none⟩ (.int .i64 dv)=w8 at *
   have HBI:Hid (1≤a∧a≤Lb.W.n):=hI (by rw [← HLB.o];exact HAI.o)
   have c0:=H8.o.box.box.c 0 _ rfl
   go_wp2_with fail
   cases sd with
   | dn bt dv=>
    have HSL:Hid (Lb.W.sl[a-1]?=some (.dn bt dv)):=hI (by rw [← HLB.o];exact HSD.o)
    refine (wnode_dn H8.o.q.wr HBI.o HSL.o).mono ?_
    rintro e w9 ⟨rfl,rfl⟩
    go_wp2
    go_roundw
    case rel=>exact ⟨a+1,Lb,by omega,by omega,by go_num,H8.o,HRB.o,HNB.o,M8.o⟩
    case measure=>simp [intOf];omega
   | up s=>
    have HSL:Hid (Lb.W.sl[a-1]?=some (.up s)):=hI (by rw [← HLB.o];exact HSD.o)
    have HSX:=HSY.o
    unfold saysB at HSX
    simp only [Bool.and_eq_true] at HSX
    have HQU:=hI HSX.1
    have HSA:Hid (saidB Lb s=true):=hI (by rw [← HLB.o];exact HSX.2)
    clear HSX HSY
    refine (wnode_up H8.o.q.wr HBI.o HSL.o).mono ?_
    rintro e w9 ⟨xx,cc,AA,rfl,-,-,nd,-,-,-,rfl⟩
    have ND:=hI nd
    clear nd c0
    go_wp2_with fail
    refine (ntold_any ND.o).mono ?_
    rintro e w10 ⟨pt,ct,rfl,ow9,x9⟩
    have T9:=hI ow9.sl
    have X9:=hI x9
    have N9:=hI (ND.o.ext x9)
    have tl:=ow9.sl.le
    have tm:=ow9.sl.max
    have HTM:=hI (And.intro tl tm)
    clear ow9 x9 ND tl tm
    go_wp2_with fail
    refine (nview_any N9.o).mono ?_
    rintro e w11 ⟨rfl,x11⟩
    have T11:=hI (T9.o.ext x11)
    have X11:=hI (X9.o.tr x11)
    have N11:=hI (N9.o.ext x11)
    have K11:=hI (nknows_any N11.o)
    have G11:=hI (ngood_any N11.o)
    have hT5:s.T.length≤50000:=N11.o.ok.T
    clear T9 X9 N9 x11
    have HQX:=HQU.o
    unfold quietB at HQX
    obtain ⟨kn,hkn⟩:∃ b,s.kn=b:=⟨_,rfl⟩
    rw [hkn] at HQX K11
    clear hkn HQU
    cases kn
    ·simp only [Bool.false_or,Bool.and_eq_true,Bool.not_eq_true',beq_iff_eq] at HQX
     obtain ⟨q1,q2,q3⟩:=HQX
     have HQ1:=hI q1
     have e9:decide ((0:Int)<(s.T.length:Int))=false:=decide_eq_false (by omega)
     have e9n:decide (0<s.T.length)=false:=decide_eq_false (by omega)
     rw [q3] at G11
     simp only [q2]
     clear q1 q2 q3
     go_wp2_with fail
     refine K11.o.mono ?_
     rintro e w12 ⟨rfl,rfl⟩
     go_wp2_with fail
     refine G11.o.mono ?_
     rintro e w13 ⟨rfl,x13⟩
     have X13:=hI (X11.o.tr x13)
     have H13:=hI (H8.o.ext X13.o)
     have M13:=hI (M8.o.tr (Fm.ext M8.o.cl X13.o) lw0)
     clear x13
     go_wp2
     go_loopw [10] (fun i wx=>wx=w13∧i=.int .i64 0) (fun i _=>0)
     case atStart=>exact ⟨rfl,rfl⟩
     case round=>
      obtain ⟨rfl,rfl⟩:=hrel
      go_wp2
      go_roundw
      case rel=>exact ⟨a+1,Lb,by omega,by omega,by go_num,H13.o,HRB.o,HNB.o,M13.o⟩
      case measure=>simp [intOf];omega
    ·clear HQX
     generalize Value.bool (inV s)=bv
     generalize (if inV s=true then s.ls else 0)=lv
     generalize (if inV s=true then s.mb else 0)=mv
     go_wp2_with fail
     refine K11.o.mono ?_
     rintro e w12 ⟨rfl,rfl⟩
     clear K11 G11
     go_wp2
     go_loopw [10] (fun i wx=>∃ k:Nat,k≤s.T.length∧i=.int .i64 (k:Int)∧Ext w8 wx∧SlS 8 wx pt s.T.length ct (s.T.map tdL)) (fun i _=>s.T.length-(intOf i).toNat)
     case atStart=>exact ⟨0,by omega,rfl,X11.o,T11.o⟩
     case round=>
      obtain ⟨i,hi,rfl,xx,tt⟩:=hrel
      have X:=hI xx
      have TT:=hI tt
      have HI5:i≤50000:=by omega
      clear xx tt
      by_cases hlt:i<s.T.length
      ·have e5:decide ((i:Int)<(s.T.length:Int))=true:=decide_eq_true (by omega)
       have e5n:decide (i<s.T.length)=true:=decide_eq_true hlt
       have f3:(0:Int)≤(i:Int):=by omega
       have f4:(i:Int)<(s.T.length:Int):=by omega
       obtain ⟨td,htd⟩:∃ t,s.T[i]?=some t:=⟨_,List.getElem?_eq_getElem hlt⟩
       have HTD:=hI htd
       have HANY:=hI (saidB_2 HSA.o htd)
       clear htd
       obtain ⟨xa,⟨g1,g2,g3,g4,g5,g6,gat⟩⟩:=td
       go_wp2
       go_loopw [11] (fun j wx=>∃ k:Nat,k≤i∧j=.int .i64 (k:Int)∧Ext w8 wx∧SlS 8 wx pt s.T.length ct (s.T.map tdL)) (fun j _=>i-(intOf j).toNat)
       case atStart=>exact ⟨0,by omega,rfl,X.o,TT.o⟩
       case round=>
        clear X TT
        obtain ⟨k,hk,rfl,xx,tt⟩:=hrel
        have X:=hI xx
        have TT:=hI tt
        clear xx tt
        by_cases hlk:k<i
        ·have e6:decide ((k:Int)<(i:Int))=true:=decide_eq_true (by omega)
         have e6n:decide (k<i)=true:=decide_eq_true hlk
         have f5:(0:Int)≤(k:Int):=by omega
         have f6:(k:Int)<(s.T.length:Int):=by omega
         obtain ⟨tb,too,te,hp,hte,u0,u1,u2,u3,u4,u5,u6,u7⟩:=td_at TT.o i hlt
         obtain ⟨tb2,too2,te2,hp2,hte2,v0,v1,v2,v3,v4,v5,v6,v7⟩:=td_at TT.o k (by omega)
         rw [hp] at hp2
         cases hp2
         rw [HTD.o] at hte
         cases hte
         have HNS:=hI (saidB_1 HSA.o hlk HTD.o hte2)
         have HPT:=hI hp
         subst hp
         clear hte2
         obtain ⟨xb,⟨h1,h2,h3,h4,h5,h6,hat⟩⟩:=te2
         simp only at u0 u1 u2 u3 u4 u5 u6 u7 v0 v1 v2 v3 v4 v5 v6 v7
         go_upto_region 20 with fail
         obtain ⟨W20,hW⟩:∃ W20,W20=wr.drew:=⟨_,rfl⟩
         have X20:Hid (Ext wr W20):=hI (by rw [hW];exact Ext.drew wr)
         replace TT:=hI (TT.o.ext X20.o)
         have gu1:=fun d os=>Ext.cell (Ext.reg W20 d os) (Ext.cell X20.o u1)
         have gu2:=fun d os=>Ext.cell (Ext.reg W20 d os) (Ext.cell X20.o u2)
         have gu3:=fun d os=>Ext.cell (Ext.reg W20 d os) (Ext.cell X20.o u3)
         have gu4:=fun d os=>Ext.cell (Ext.reg W20 d os) (Ext.cell X20.o u4)
         have gu5:=fun d os=>Ext.cell (Ext.reg W20 d os) (Ext.cell X20.o u5)
         have gu6:=fun d os=>Ext.cell (Ext.reg W20 d os) (Ext.cell X20.o u6)
         have gu7:=fun d os=>Ext.cell (Ext.reg W20 d os) (Ext.cell X20.o u7)
         have gv1:=fun d os=>Ext.cell (Ext.reg W20 d os) (Ext.cell X20.o v1)
         have gv2:=fun d os=>Ext.cell (Ext.reg W20 d os) (Ext.cell X20.o v2)
         have gv3:=fun d os=>Ext.cell (Ext.reg W20 d os) (Ext.cell X20.o v3)
         have gv4:=fun d os=>Ext.cell (Ext.reg W20 d os) (Ext.cell X20.o v4)
         have gv5:=fun d os=>Ext.cell (Ext.reg W20 d os) (Ext.cell X20.o v5)
         have gv6:=fun d os=>Ext.cell (Ext.reg W20 d os) (Ext.cell X20.o v6)
         have gv7:=fun d os=>Ext.cell (Ext.reg W20 d os) (Ext.cell X20.o v7)
         refine att [0,1,2,3,4,5,6,7,8,9,10] [] ?_
         rw [← hW]
         clear hW
         repeat ((first|refine aqq fun K hK=>?_|refine akk fun K hK=>?_);go_big_quiet_op;refine hK _ ?_;clear hK K)
         refine acc fun K hK=>?_
         go_simp
         refine (same_ref (a:=⟨g1,g2,g3,g4,g5,g6,gat⟩) (b:=⟨h1,h2,h3,h4,h5,h6,hat⟩)).mono ?_
         rw [HNS.o]
         rintro e w21 ⟨rfl,x21⟩
         have XE:=hI ((X.o.tr X20.o).tr x21)
         have TE:=hI (TT.o.ext x21)
         refine hK _ _ x21 ?_
         clear hK K x21 X20 gu1 gu2 gu3 gu4 gu5 gu6 gu7 gv1 gv2 gv3 gv4 gv5 gv6 gv7 u0 u1 u2 u3 u4 u5 u6 u7 v0 v1 v2 v3 v4 v5 v6 v7
         repeat ((first|refine aqq fun K hK=>?_|refine akk fun K hK=>?_);go_big_quiet_op;refine hK _ ?_;clear hK K)
         refine ra_nil ?_
         refine rt_nil ?_
         go_wp2
         go_roundw
         case rel=>exact ⟨k+1,by omega,by go_num,XE.o,TE.o⟩
         case measure=>simp [intOf];omega
        ·have e6:decide ((k:Int)<(i:Int))=false:=decide_eq_false (by omega)
         have e6n:decide (k<i)=false:=decide_eq_false hlk
         go_wp2
         clear e6 e6n
         have hcl9:Lb.cs.length≤1000:=H8.o.q.mx.2.2.2.1
         go_loopw [12,13] (fun b j wx=>∃ k:Nat,k≤Lb.cs.length∧j=.int .i64 (k:Int)∧b=.bool ((Lb.cs.take k).any fun c=>castB c ⟨g1,g2,g3,g4,g5,g6,gat⟩)∧Ext w8 wx∧SlS 8 wx pt s.T.length ct (s.T.map tdL)) (fun _ j _=>Lb.cs.length-(intOf j).toNat)
         case atStart=>exact ⟨0,by omega,rfl,rfl,X.o,TT.o⟩
         case round=>
          clear X TT hlk hk
          obtain ⟨k,hk,rfl,rfl,xx,tt⟩:=hrel
          have X:=hI xx
          have TT:=hI tt
          have HX:=hI (H8.o.ext xx)
          clear xx tt
          have c21:wr.cell? ⟨lw,21,none⟩=some (.slice A.cp Lb.cs.length A.cc):=HX.o.box.box.c 21 _ rfl
          by_cases hlk:k<Lb.cs.length
          ·have e6:decide ((k:Int)<(Lb.cs.length:Int))=true:=decide_eq_true (by omega)
           have e6n:decide (k<Lb.cs.length)=true:=decide_eq_true hlk
           obtain ⟨cb,coo,ce,hcp,hcx,q0,q1,q2,q3,q4,q5,q6⟩:=en_at HX.o.q.co.row.sl k hlk
           have HTS:Hid ((Lb.cs.take (k+1)).any (fun c=>castB c ⟨g1,g2,g3,g4,g5,g6,gat⟩)=((Lb.cs.take k).any (fun c=>castB c ⟨g1,g2,g3,g4,g5,g6,gat⟩) || castB ce ⟨g1,g2,g3,g4,g5,g6,gat⟩)):=hI (by
            rw [List.take_succ_eq_append_getElem hlk]
            rw [List.getElem?_eq_getElem hlk] at hcx
            rw [Option.some.inj hcx]
            simp)
           obtain ⟨BB,hBB⟩:∃ b,(Lb.cs.take k).any (fun c=>castB c ⟨g1,g2,g3,g4,g5,g6,gat⟩)=b:=⟨_,rfl⟩
           rw [hBB] at HTS
           rw [hBB]
           rw [hcp] at c21
           obtain ⟨tb,too,te,hp,hte,u0,u1,u2,u3,u4,u5,u6,u7⟩:=td_at TT.o i hlt
           rw [HTD.o] at hte
           cases hte
           clear hBB hcp hcx u0 u1 u2 u3 u4 u5 u6 u7
           obtain ⟨f1',f2',f3',f4',f5',f6',dat⟩:=ce
           simp only at q0 q1 q2 q3 q4 q5 q6
           subst hp
           go_upto_region 27 with fail
           change Code.wp _ _ _ _ (wr.alloc (.cells (enA ⟨f1',f2',f3',f4',f5',f6',dat⟩) 71))
           have EB:=hI (BoxC.loose (M8.o.cl.ext X.o) (enA ⟨f1',f2',f3',f4',f5',f6',dat⟩) (enL ⟨f1',f2',f3',f4',f5',f6',dat⟩) 71 rfl)
           have A1:=hI (Ext.alloc wr (.cells (enA ⟨f1',f2',f3',f4',f5',f6',dat⟩) 71))
           replace TT:=hI (TT.o.ext A1.o)
           replace X:=hI (X.o.tr A1.o)
           clear A1 q0 q1 q2 q3 q4 q5 q6 c21
           generalize wr.alloc (.cells (enA ⟨f1',f2',f3',f4',f5',f6',dat⟩) 71)=w5 at *
           generalize wr.heap.size=eb at *
           cases BB
           ·have HSM:=hI (fun w=>same_ref (a:=⟨f1',f2',f3',f4',f5',f6',dat⟩) (b:=⟨g1,g2,g3,g4,g5,g6,gat⟩) (w:=w))
            cases hsm:sameB ⟨f1',f2',f3',f4',f5',f6',dat⟩ ⟨g1,g2,g3,g4,g5,g6,gat⟩
            ·rw [hsm] at HSM
             have HNX:=hI (HTS.o.trans (show (false || castB ⟨f1',f2',f3',f4',f5',f6',dat⟩ ⟨g1,g2,g3,g4,g5,g6,gat⟩)=false by unfold castB;rw [hsm];rfl))
             clear hsm
             obtain ⟨W27,hW⟩:∃ W27,W27=w5.drew:=⟨_,rfl⟩
             have X27:Hid (Ext w5 W27):=hI (by rw [hW];exact Ext.drew w5)
             replace TT:=hI (TT.o.ext X27.o)
             replace EB:=hI (EB.o.ext X27.o)
             obtain ⟨tb5,too5,te5,hp5,hte5,u0,u1,u2,u3,u4,u5,u6,u7⟩:=td_at TT.o i hlt
             rw [HTD.o] at hte5
             cases hte5
             cases hp5
             try simp only at u1 u2 u3 u4 u5 u6 u7
             have gu1:=fun d os=>Ext.cell (Ext.reg W27 d os) u1
             have gu2:=fun d os=>Ext.cell (Ext.reg W27 d os) u2
             have gu3:=fun d os=>Ext.cell (Ext.reg W27 d os) u3
             have gu4:=fun d os=>Ext.cell (Ext.reg W27 d os) u4
             have gu5:=fun d os=>Ext.cell (Ext.reg W27 d os) u5
             have gu6:=fun d os=>Ext.cell (Ext.reg W27 d os) u6
             have gu7:=fun d os=>Ext.cell (Ext.reg W27 d os) u7
             have ge0:=fun d os=>Ext.cell (Ext.reg W27 d os) (EB.o.box.c 0 _ rfl)
             have ge1:=fun d os=>Ext.cell (Ext.reg W27 d os) (EB.o.box.c 1 _ rfl)
             have ge2:=fun d os=>Ext.cell (Ext.reg W27 d os) (EB.o.box.c 2 _ rfl)
             have ge3:=fun d os=>Ext.cell (Ext.reg W27 d os) (EB.o.box.c 3 _ rfl)
             have ge4:=fun d os=>Ext.cell (Ext.reg W27 d os) (EB.o.box.c 4 _ rfl)
             have ge5:=fun d os=>Ext.cell (Ext.reg W27 d os) (EB.o.box.c 5 _ rfl)
             have ge6:=fun d os=>Ext.cell (Ext.reg W27 d os) (EB.o.box.c 6 _ rfl)
             clear u0 u1 u2 u3 u4 u5 u6 u7
             refine att [0,1,2,3,4,5,6,7,8,9,10,11,12,13,14,15,16,17,18,19,20,21,22,23,24,25,26,27,28,29,30,31,32,33,34,35,36,37,38,39,40,41,42,43] [] ?_
             rw [← hW]
             clear hW
             repeat ((first|refine aqq fun K hK=>?_|refine akk fun K hK=>?_);go_big_quiet_op;refine hK _ ?_;clear hK K)
             refine acc fun K hK=>?_
             go_simp
             refine (HSM.o _).mono ?_
             rintro e w28 ⟨rfl,x28⟩
             have XE:=hI ((X.o.tr X27.o).tr x28)
             have TE:=hI (TT.o.ext x28)
             have EE:=hI (EB.o.ext x28)
             refine hK _ _ x28 ?_
             clear hK K x28 X27 gu1 gu2 gu3 gu4 gu5 gu6 gu7 ge0 ge1 ge2 ge3 ge4 ge5 ge6
             repeat ((first|refine aqq fun K hK=>?_|refine akk fun K hK=>?_);go_big_quiet_op;refine hK _ ?_;clear hK K)
             refine ra_nil ?_
             refine rt_nil ?_
             go_wp2
             go_roundw
             case rel=>exact ⟨k+1,by omega,by go_num,by rw [HNX.o],XE.o,TE.o⟩
             case measure=>simp [intOf];omega
            ·rw [hsm] at HSM
             by_cases ho:f4'=g4
             ·have d1:(f4'==g4)=true:=by simpa using ho
              by_cases hl:f5'=g5
              ·have d2:(f5'==g5)=true:=by simpa using hl
               by_cases hd:dat=gat
               ·have d3:(dat.toList==gat.toList)=true:=by rw [hd];exact beq_self_eq_true _
                have HNX:=hI (HTS.o.trans (show (false || castB ⟨f1',f2',f3',f4',f5',f6',dat⟩ ⟨g1,g2,g3,g4,g5,g6,gat⟩)=true by unfold castB;rw [hsm];simp [ho,hl,hd]))
                clear hsm ho hl hd
                obtain ⟨W27,hW⟩:∃ W27,W27=w5.drew:=⟨_,rfl⟩
                have X27:Hid (Ext w5 W27):=hI (by rw [hW];exact Ext.drew w5)
                replace TT:=hI (TT.o.ext X27.o)
                replace EB:=hI (EB.o.ext X27.o)
                obtain ⟨tb5,too5,te5,hp5,hte5,u0,u1,u2,u3,u4,u5,u6,u7⟩:=td_at TT.o i hlt
                rw [HTD.o] at hte5
                cases hte5
                cases hp5
                try simp only at u1 u2 u3 u4 u5 u6 u7
                have gu1:=fun d os=>Ext.cell (Ext.reg W27 d os) u1
                have gu2:=fun d os=>Ext.cell (Ext.reg W27 d os) u2
                have gu3:=fun d os=>Ext.cell (Ext.reg W27 d os) u3
                have gu4:=fun d os=>Ext.cell (Ext.reg W27 d os) u4
                have gu5:=fun d os=>Ext.cell (Ext.reg W27 d os) u5
                have gu6:=fun d os=>Ext.cell (Ext.reg W27 d os) u6
                have gu7:=fun d os=>Ext.cell (Ext.reg W27 d os) u7
                have ge0:=fun d os=>Ext.cell (Ext.reg W27 d os) (EB.o.box.c 0 _ rfl)
                have ge1:=fun d os=>Ext.cell (Ext.reg W27 d os) (EB.o.box.c 1 _ rfl)
                have ge2:=fun d os=>Ext.cell (Ext.reg W27 d os) (EB.o.box.c 2 _ rfl)
                have ge3:=fun d os=>Ext.cell (Ext.reg W27 d os) (EB.o.box.c 3 _ rfl)
                have ge4:=fun d os=>Ext.cell (Ext.reg W27 d os) (EB.o.box.c 4 _ rfl)
                have ge5:=fun d os=>Ext.cell (Ext.reg W27 d os) (EB.o.box.c 5 _ rfl)
                have ge6:=fun d os=>Ext.cell (Ext.reg W27 d os) (EB.o.box.c 6 _ rfl)
                clear u0 u1 u2 u3 u4 u5 u6 u7
                refine att [0,1,2,3,4,5,6,7,8,9,10,11,12,13,14,15,16,17,18,19,20,21,22,23,24,25,26,27,28,29,30,31,32,33,34,35,36,37,38,39,40,41,42,43] [] ?_
                rw [← hW]
                clear hW
                repeat ((first|refine aqq fun K hK=>?_|refine akk fun K hK=>?_);go_big_quiet_op;refine hK _ ?_;clear hK K)
                refine acc fun K hK=>?_
                go_simp
                refine (HSM.o _).mono ?_
                rintro e w28 ⟨rfl,x28⟩
                have XE:=hI ((X.o.tr X27.o).tr x28)
                have TE:=hI (TT.o.ext x28)
                have EE:=hI (EB.o.ext x28)
                refine hK _ _ x28 ?_
                clear hK K x28 X27 gu1 gu2 gu3 gu4 gu5 gu6 gu7 ge0 ge1 ge2 ge3 ge4 ge5 ge6
                obtain ⟨tb6,too6,te6,hp6,hte6,u0,u1,u2,u3,u4,u5,u6,u7⟩:=td_at TE.o i hlt
                rw [HTD.o] at hte6
                cases hte6
                cases hp6
                have gu4:=fun d os=>Ext.cell (Ext.reg w28 d os) u4
                have ge3:=fun d os=>Ext.cell (Ext.reg w28 d os) (EE.o.box.c 3 _ rfl)
                have gu5:=fun d os=>Ext.cell (Ext.reg w28 d os) u5
                have ge4:=fun d os=>Ext.cell (Ext.reg w28 d os) (EE.o.box.c 4 _ rfl)
                have gu7:=fun d os=>Ext.cell (Ext.reg w28 d os) u7
                have ge6:=fun d os=>Ext.cell (Ext.reg w28 d os) (EE.o.box.c 6 _ rfl)
                clear u0 u1 u2 u3 u4 u5 u6 u7
                repeat ((first|refine aqq fun K hK=>?_|refine akk fun K hK=>?_);go_big_quiet_op;refine hK _ ?_;clear hK K)
                refine ra_nil ?_
                refine rt_nil ?_
                clear gu4 ge3 gu5 ge4 gu7 ge6
                go_wp2
                go_roundw
                case rel=>exact ⟨k+1,by omega,by go_num,by rw [HNX.o],XE.o,TE.o⟩
                case measure=>simp [intOf];omega
               ·have d3:(dat.toList==gat.toList)=false:=str_ne hd
                have HNX:=hI (HTS.o.trans (show (false || castB ⟨f1',f2',f3',f4',f5',f6',dat⟩ ⟨g1,g2,g3,g4,g5,g6,gat⟩)=false by unfold castB;simp [hd]))
                clear hsm ho hl hd
                obtain ⟨W27,hW⟩:∃ W27,W27=w5.drew:=⟨_,rfl⟩
                have X27:Hid (Ext w5 W27):=hI (by rw [hW];exact Ext.drew w5)
                replace TT:=hI (TT.o.ext X27.o)
                replace EB:=hI (EB.o.ext X27.o)
                obtain ⟨tb5,too5,te5,hp5,hte5,u0,u1,u2,u3,u4,u5,u6,u7⟩:=td_at TT.o i hlt
                rw [HTD.o] at hte5
                cases hte5
                cases hp5
                try simp only at u1 u2 u3 u4 u5 u6 u7
                have gu1:=fun d os=>Ext.cell (Ext.reg W27 d os) u1
                have gu2:=fun d os=>Ext.cell (Ext.reg W27 d os) u2
                have gu3:=fun d os=>Ext.cell (Ext.reg W27 d os) u3
                have gu4:=fun d os=>Ext.cell (Ext.reg W27 d os) u4
                have gu5:=fun d os=>Ext.cell (Ext.reg W27 d os) u5
                have gu6:=fun d os=>Ext.cell (Ext.reg W27 d os) u6
                have gu7:=fun d os=>Ext.cell (Ext.reg W27 d os) u7
                have ge0:=fun d os=>Ext.cell (Ext.reg W27 d os) (EB.o.box.c 0 _ rfl)
                have ge1:=fun d os=>Ext.cell (Ext.reg W27 d os) (EB.o.box.c 1 _ rfl)
                have ge2:=fun d os=>Ext.cell (Ext.reg W27 d os) (EB.o.box.c 2 _ rfl)
                have ge3:=fun d os=>Ext.cell (Ext.reg W27 d os) (EB.o.box.c 3 _ rfl)
                have ge4:=fun d os=>Ext.cell (Ext.reg W27 d os) (EB.o.box.c 4 _ rfl)
                have ge5:=fun d os=>Ext.cell (Ext.reg W27 d os) (EB.o.box.c 5 _ rfl)
                have ge6:=fun d os=>Ext.cell (Ext.reg W27 d os) (EB.o.box.c 6 _ rfl)
                clear u0 u1 u2 u3 u4 u5 u6 u7
                refine att [0,1,2,3,4,5,6,7,8,9,10,11,12,13,14,15,16,17,18,19,20,21,22,23,24,25,26,27,28,29,30,31,32,33,34,35,36,37,38,39,40,41,42,43] [] ?_
                rw [← hW]
                clear hW
                repeat ((first|refine aqq fun K hK=>?_|refine akk fun K hK=>?_);go_big_quiet_op;refine hK _ ?_;clear hK K)
                refine acc fun K hK=>?_
                go_simp
                refine (HSM.o _).mono ?_
                rintro e w28 ⟨rfl,x28⟩
                have XE:=hI ((X.o.tr X27.o).tr x28)
                have TE:=hI (TT.o.ext x28)
                have EE:=hI (EB.o.ext x28)
                refine hK _ _ x28 ?_
                clear hK K x28 X27 gu1 gu2 gu3 gu4 gu5 gu6 gu7 ge0 ge1 ge2 ge3 ge4 ge5 ge6
                obtain ⟨tb6,too6,te6,hp6,hte6,u0,u1,u2,u3,u4,u5,u6,u7⟩:=td_at TE.o i hlt
                rw [HTD.o] at hte6
                cases hte6
                cases hp6
                have gu4:=fun d os=>Ext.cell (Ext.reg w28 d os) u4
                have ge3:=fun d os=>Ext.cell (Ext.reg w28 d os) (EE.o.box.c 3 _ rfl)
                have gu5:=fun d os=>Ext.cell (Ext.reg w28 d os) u5
                have ge4:=fun d os=>Ext.cell (Ext.reg w28 d os) (EE.o.box.c 4 _ rfl)
                have gu7:=fun d os=>Ext.cell (Ext.reg w28 d os) u7
                have ge6:=fun d os=>Ext.cell (Ext.reg w28 d os) (EE.o.box.c 6 _ rfl)
                clear u0 u1 u2 u3 u4 u5 u6 u7
                repeat ((first|refine aqq fun K hK=>?_|refine akk fun K hK=>?_);go_big_quiet_op;refine hK _ ?_;clear hK K)
                refine ra_nil ?_
                refine rt_nil ?_
                clear gu4 ge3 gu5 ge4 gu7 ge6
                go_wp2
                go_roundw
                case rel=>exact ⟨k+1,by omega,by go_num,by rw [HNX.o],XE.o,TE.o⟩
                case measure=>simp [intOf];omega
              ·have d2:(f5'==g5)=false:=beq_eq_false_iff_ne.2 hl
               have HNX:=hI (HTS.o.trans (show (false || castB ⟨f1',f2',f3',f4',f5',f6',dat⟩ ⟨g1,g2,g3,g4,g5,g6,gat⟩)=false by unfold castB;simp [hl]))
               clear hsm ho hl
               obtain ⟨W27,hW⟩:∃ W27,W27=w5.drew:=⟨_,rfl⟩
               have X27:Hid (Ext w5 W27):=hI (by rw [hW];exact Ext.drew w5)
               replace TT:=hI (TT.o.ext X27.o)
               replace EB:=hI (EB.o.ext X27.o)
               obtain ⟨tb5,too5,te5,hp5,hte5,u0,u1,u2,u3,u4,u5,u6,u7⟩:=td_at TT.o i hlt
               rw [HTD.o] at hte5
               cases hte5
               cases hp5
               try simp only at u1 u2 u3 u4 u5 u6 u7
               have gu1:=fun d os=>Ext.cell (Ext.reg W27 d os) u1
               have gu2:=fun d os=>Ext.cell (Ext.reg W27 d os) u2
               have gu3:=fun d os=>Ext.cell (Ext.reg W27 d os) u3
               have gu4:=fun d os=>Ext.cell (Ext.reg W27 d os) u4
               have gu5:=fun d os=>Ext.cell (Ext.reg W27 d os) u5
               have gu6:=fun d os=>Ext.cell (Ext.reg W27 d os) u6
               have gu7:=fun d os=>Ext.cell (Ext.reg W27 d os) u7
               have ge0:=fun d os=>Ext.cell (Ext.reg W27 d os) (EB.o.box.c 0 _ rfl)
               have ge1:=fun d os=>Ext.cell (Ext.reg W27 d os) (EB.o.box.c 1 _ rfl)
               have ge2:=fun d os=>Ext.cell (Ext.reg W27 d os) (EB.o.box.c 2 _ rfl)
               have ge3:=fun d os=>Ext.cell (Ext.reg W27 d os) (EB.o.box.c 3 _ rfl)
               have ge4:=fun d os=>Ext.cell (Ext.reg W27 d os) (EB.o.box.c 4 _ rfl)
               have ge5:=fun d os=>Ext.cell (Ext.reg W27 d os) (EB.o.box.c 5 _ rfl)
               have ge6:=fun d os=>Ext.cell (Ext.reg W27 d os) (EB.o.box.c 6 _ rfl)
               clear u0 u1 u2 u3 u4 u5 u6 u7
               refine att [0,1,2,3,4,5,6,7,8,9,10,11,12,13,14,15,16,17,18,19,20,21,22,23,24,25,26,27,28,29,30,31,32,33,34,35,36,37,38,39,40,41,42,43] [] ?_
               rw [← hW]
               clear hW
               repeat ((first|refine aqq fun K hK=>?_|refine akk fun K hK=>?_);go_big_quiet_op;refine hK _ ?_;clear hK K)
               refine acc fun K hK=>?_
               go_simp
               refine (HSM.o _).mono ?_
               rintro e w28 ⟨rfl,x28⟩
               have XE:=hI ((X.o.tr X27.o).tr x28)
               have TE:=hI (TT.o.ext x28)
               have EE:=hI (EB.o.ext x28)
               refine hK _ _ x28 ?_
               clear hK K x28 X27 gu1 gu2 gu3 gu4 gu5 gu6 gu7 ge0 ge1 ge2 ge3 ge4 ge5 ge6
               obtain ⟨tb6,too6,te6,hp6,hte6,u0,u1,u2,u3,u4,u5,u6,u7⟩:=td_at TE.o i hlt
               rw [HTD.o] at hte6
               cases hte6
               cases hp6
               have gu4:=fun d os=>Ext.cell (Ext.reg w28 d os) u4
               have ge3:=fun d os=>Ext.cell (Ext.reg w28 d os) (EE.o.box.c 3 _ rfl)
               have gu5:=fun d os=>Ext.cell (Ext.reg w28 d os) u5
               have ge4:=fun d os=>Ext.cell (Ext.reg w28 d os) (EE.o.box.c 4 _ rfl)
               clear u0 u1 u2 u3 u4 u5 u6 u7
               repeat ((first|refine aqq fun K hK=>?_|refine akk fun K hK=>?_);go_big_quiet_op;refine hK _ ?_;clear hK K)
               refine ra_nil ?_
               refine rt_nil ?_
               clear gu4 ge3 gu5 ge4
               go_wp2
               go_roundw
               case rel=>exact ⟨k+1,by omega,by go_num,by rw [HNX.o],XE.o,TE.o⟩
               case measure=>simp [intOf];omega
             ·have d1:(f4'==g4)=false:=beq_eq_false_iff_ne.2 ho
              have HNX:=hI (HTS.o.trans (show (false || castB ⟨f1',f2',f3',f4',f5',f6',dat⟩ ⟨g1,g2,g3,g4,g5,g6,gat⟩)=false by unfold castB;simp [ho]))
              clear hsm ho
              obtain ⟨W27,hW⟩:∃ W27,W27=w5.drew:=⟨_,rfl⟩
              have X27:Hid (Ext w5 W27):=hI (by rw [hW];exact Ext.drew w5)
              replace TT:=hI (TT.o.ext X27.o)
              replace EB:=hI (EB.o.ext X27.o)
              obtain ⟨tb5,too5,te5,hp5,hte5,u0,u1,u2,u3,u4,u5,u6,u7⟩:=td_at TT.o i hlt
              rw [HTD.o] at hte5
              cases hte5
              cases hp5
              try simp only at u1 u2 u3 u4 u5 u6 u7
              have gu1:=fun d os=>Ext.cell (Ext.reg W27 d os) u1
              have gu2:=fun d os=>Ext.cell (Ext.reg W27 d os) u2
              have gu3:=fun d os=>Ext.cell (Ext.reg W27 d os) u3
              have gu4:=fun d os=>Ext.cell (Ext.reg W27 d os) u4
              have gu5:=fun d os=>Ext.cell (Ext.reg W27 d os) u5
              have gu6:=fun d os=>Ext.cell (Ext.reg W27 d os) u6
              have gu7:=fun d os=>Ext.cell (Ext.reg W27 d os) u7
              have ge0:=fun d os=>Ext.cell (Ext.reg W27 d os) (EB.o.box.c 0 _ rfl)
              have ge1:=fun d os=>Ext.cell (Ext.reg W27 d os) (EB.o.box.c 1 _ rfl)
              have ge2:=fun d os=>Ext.cell (Ext.reg W27 d os) (EB.o.box.c 2 _ rfl)
              have ge3:=fun d os=>Ext.cell (Ext.reg W27 d os) (EB.o.box.c 3 _ rfl)
              have ge4:=fun d os=>Ext.cell (Ext.reg W27 d os) (EB.o.box.c 4 _ rfl)
              have ge5:=fun d os=>Ext.cell (Ext.reg W27 d os) (EB.o.box.c 5 _ rfl)
              have ge6:=fun d os=>Ext.cell (Ext.reg W27 d os) (EB.o.box.c 6 _ rfl)
              clear u0 u1 u2 u3 u4 u5 u6 u7
              refine att [0,1,2,3,4,5,6,7,8,9,10,11,12,13,14,15,16,17,18,19,20,21,22,23,24,25,26,27,28,29,30,31,32,33,34,35,36,37,38,39,40,41,42,43] [] ?_
              rw [← hW]
              clear hW
              repeat ((first|refine aqq fun K hK=>?_|refine akk fun K hK=>?_);go_big_quiet_op;refine hK _ ?_;clear hK K)
              refine acc fun K hK=>?_
              go_simp
              refine (HSM.o _).mono ?_
              rintro e w28 ⟨rfl,x28⟩
              have XE:=hI ((X.o.tr X27.o).tr x28)
              have TE:=hI (TT.o.ext x28)
              have EE:=hI (EB.o.ext x28)
              refine hK _ _ x28 ?_
              clear hK K x28 X27 gu1 gu2 gu3 gu4 gu5 gu6 gu7 ge0 ge1 ge2 ge3 ge4 ge5 ge6
              obtain ⟨tb6,too6,te6,hp6,hte6,u0,u1,u2,u3,u4,u5,u6,u7⟩:=td_at TE.o i hlt
              rw [HTD.o] at hte6
              cases hte6
              cases hp6
              have gu4:=fun d os=>Ext.cell (Ext.reg w28 d os) u4
              have ge3:=fun d os=>Ext.cell (Ext.reg w28 d os) (EE.o.box.c 3 _ rfl)
              clear u0 u1 u2 u3 u4 u5 u6 u7
              repeat ((first|refine aqq fun K hK=>?_|refine akk fun K hK=>?_);go_big_quiet_op;refine hK _ ?_;clear hK K)
              refine ra_nil ?_
              refine rt_nil ?_
              clear gu4 ge3
              go_wp2
              go_roundw
              case rel=>exact ⟨k+1,by omega,by go_num,by rw [HNX.o],XE.o,TE.o⟩
              case measure=>simp [intOf];omega
           ·have HNX:=hI (HTS.o.trans (Bool.true_or _))
            obtain ⟨W27,hW⟩:∃ W27,W27=w5.drew:=⟨_,rfl⟩
            have X27:Hid (Ext w5 W27):=hI (by rw [hW];exact Ext.drew w5)
            replace TT:=hI (TT.o.ext X27.o)
            refine att [0,1,2,3,4,5,6,7,8,9,10,11,12,13,14,15,16,17,18,19,20,21,22,23,24,25,26,27,28,29,30,31,32,33,34,35,36,37,38,39,40,41,42,43] [] ?_
            rw [← hW]
            clear hW
            repeat ((first|refine aqq fun K hK=>?_|refine akk fun K hK=>?_);go_big_quiet_op;refine hK _ ?_;clear hK K)
            refine ra_nil ?_
            refine rt_nil ?_
            have XE:=hI (X.o.tr X27.o)
            have TE:=TT
            go_wp2
            go_roundw
            case rel=>exact ⟨k+1,by omega,by go_num,by rw [HNX.o],XE.o,TE.o⟩
            case measure=>simp [intOf];omega
          ·have e6:decide ((k:Int)<(Lb.cs.length:Int))=false:=decide_eq_false (by omega)
           have e6n:decide (k<Lb.cs.length)=false:=decide_eq_false hlk
           have HAE:Hid ((Lb.cs.take k).any (fun c=>castB c ⟨g1,g2,g3,g4,g5,g6,gat⟩)=true):=hI (by
            rw [List.take_of_length_le (by omega)]
            exact HANY.o)
           rw [HAE.o]
           go_wp2
           go_roundw
           case rel=>exact ⟨i+1,by omega,by go_num,X.o,TT.o⟩
           case measure=>simp [intOf];omega
      ·have e5:decide ((i:Int)<(s.T.length:Int))=false:=decide_eq_false (by omega)
       have e5n:decide (i<s.T.length)=false:=decide_eq_false hlt
       have H13:=hI (H8.o.ext X.o)
       have M13:=hI (M8.o.tr (Fm.ext M8.o.cl X.o) lw0)
       go_wp2
       go_roundw
       case rel=>exact ⟨a+1,Lb,by omega,by omega,by go_num,H13.o,HRB.o,HNB.o,M13.o⟩
       case measure=>simp [intOf];omega
  ·have e3:decide ((a:Int)≤(L.n:Int))=false:=decide_eq_false (by omega)
   have e3n:decide (a≤L.n)=false:=decide_eq_false hlt2
   have HEQ:Hid (La=L'):=hI (by
    have:=HFA.o
    rw [show L.n+1-a=0 by omega] at this
    exact Option.some.inj this)
   rw [HEQ.o] at HA
   go_wp2
   go_ret
   exact ⟨rfl,o,A,HA.o,MA.o⟩
end
end Go.Proofs.YtjhbmbbmjaabcaaGreat
