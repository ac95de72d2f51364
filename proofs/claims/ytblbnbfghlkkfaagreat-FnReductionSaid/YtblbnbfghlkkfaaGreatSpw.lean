/-
  Spw
-/
import Derived.Test.YtblbnbfghlkkfaaGreatSbw
import Derived.Test.YtblbnbfghlkkfaaGreatPqp
import Derived.Test.YtblbnbfghlkkfaaGreatBxw
import Derived.Test.YtblbnbfghlkkfaaGreatEpl
import Derived.Test.YtblbnbfghlkkfaaGreatOdr
import Derived.Test.YtblbnbfghlkkfaaGreatKeep
import Derived.Test.YtblbnbfghlkkfaaGreatSpace
import Derived.Test.YtblbnbfghlkkfaaGreatIbf
namespace Go.Proofs.YtblbnbfghlkkfaaGreat
open Go.RowKit
set_option linter.unusedVariables false
set_option linter.unusedSimpArgs false
attribute [local go_sem ↓] Go.wp_at_zero Go.wp_at_succ
/-- what l30Space hands back -/
def DrawnSp (g:Nat) (w:World) (e:Ending) (W:World):Prop:=∃ (m:ModelD) (cm:List Value) (q:QueryD) (vc:Int) (Aq:Option Addr) (nq cq:Nat) (s:SpaceD) (cs:List Value),
 e=.returned (.tuple #[.agg cm.toArray,.agg #[.int .i64 vc,.slice Aq nq cq],.agg cs.toArray])/\Stb (rModel NB) w.heap.size W cm m/\Stb (rQuery NB) w.heap.size W [.int .i64 vc,.slice Aq nq cq] q/\Stb (rSpace NB) w.heap.size W cs s/\Cur W g/\Chg [g] w W
/-- the boxes that stand: the three results', the model's, the query's -/
structure Sxw (w:World) (g gM gQ:Nat) (cm:List Value) (m:ModelD) (vc:Int) (Aq:Option Addr) (nq cq:Nat) (q:QueryD) (W:World):Prop where
 r0:Bk W w.heap.size 28 [.int .i64 0,.int .i64 0,.int .i64 0,.int .i64 0,.int .i64 0,.slice none 0 0,.int .i64 0,.int .i64 0,.int .i64 0,.int .i64 0,.int .i64 0,.slice none 0 0,.int .i64 0,.int .i64 0,.int .i64 0,.int .i64 0,.int .i64 0,.slice none 0 0,.int .i64 0,.int .i64 0,.int .i64 0,.int .i64 0,.int .i64 0,.slice none 0 0,.int .i64 0,.int .i64 0,.int .i64 0,.int .i64 0,.int .i64 0,.slice none 0 0]
 r1:Bk W (w.heap.size+1) 31 [.int .i64 0,.slice none 0 0]
 r2:Bk W (w.heap.size+1+1) 37 [.slice none 0 0,.slice none 0 0,.slice none 0 0,.slice none 0 0,.slice none 0 0]
 kM:Bk W gM 28 cm
 kQ:Bk W gQ 31 [.int .i64 vc,.slice Aq nq cq]
 HM:Stb (rModel NB) (w.heap.size+3) W cm m
 HQ:Stb (rQuery NB) (w.heap.size+3) W [.int .i64 vc,.slice Aq nq cq] q
 C:Chg [g] w W
 gw:g<w.heap.size
 gm:w.heap.size+3<=gM
 gq:w.heap.size+3<=gQ
theorem Sxw.at {w W V:World}{g gM gQ:Nat}{cm:List Value}{m:ModelD}{vc:Int}{Aq:Option Addr}{nq cq:Nat}{q:QueryD}(h:Sxw w g gM gQ cm m vc Aq nq cq q W) (hc:Chg [g] W V):Sxw w g gM gQ cm m vc Aq nq cq q V:=by
 have h1:=h.gw
 have h2:=h.gm
 have h3:=h.gq
 have ho:Out (w.heap.size+3) W V:=Out.chg hc (by simp;omega)
 exact⟨(hc.block _ h.r0.lt (by simp;omega)).trans h.r0,(hc.block _ h.r1.lt (by simp;omega)).trans h.r1,(hc.block _ h.r2.lt (by simp;omega)).trans h.r2,(hc.block _ h.kM.lt (by simp;omega)).trans h.kM,(hc.block _ h.kQ.lt (by simp;omega)).trans h.kQ,h.HM.out ho,h.HQ.out ho,h.C.trans hc,h1,h2,h3⟩
/-- the three results stored -/
theorem stores3 {W:World}{b:Nat}(r0:Bk W b 28 [.int .i64 0,.int .i64 0,.int .i64 0,.int .i64 0,.int .i64 0,.slice none 0 0,.int .i64 0,.int .i64 0,.int .i64 0,.int .i64 0,.int .i64 0,.slice none 0 0,.int .i64 0,.int .i64 0,.int .i64 0,.int .i64 0,.int .i64 0,.slice none 0 0,.int .i64 0,.int .i64 0,.int .i64 0,.int .i64 0,.int .i64 0,.slice none 0 0,.int .i64 0,.int .i64 0,.int .i64 0,.int .i64 0,.int .i64 0,.slice none 0 0]) (r1:Bk W (b+1) 31 [.int .i64 0,.slice none 0 0]) (r2:Bk W (b+1+1) 37 [.slice none 0 0,.slice none 0 0,.slice none 0 0,.slice none 0 0,.slice none 0 0]) {cm cf:List Value}(hl:cm.length=30) (hf:cf.length=5) (v0 v1:Value) {W1 W2 W3:World}(h1:W1=setCells W b 0 cm) (h2:W2=set2 W1 (b+1) v0 v1) (h3:W3=setCells W2 (b+1+1) 0 cf) :
  (Bk W1 (b+1) 31 [.int .i64 0,.slice none 0 0]/\Bk W2 (b+1+1) 37 [.slice none 0 0,.slice none 0 0,.slice none 0 0,.slice none 0 0,.slice none 0 0]) /\
  (Bk W3 b 28 cm/\Bk W3 (b+1) 31 [v0,v1]/\Bk W3 (b+1+1) 37 cf) /\
  (∀ k,¬ (b<=k/\k<b+3)->W1.heap[k]?=W.heap[k]?/\W2.heap[k]?=W.heap[k]?/\W3.heap[k]?=W.heap[k]?)/\W3.heap.size=W.heap.size/\Below b W W3:=by
 have a1:∀ k,k≠b->W1.heap[k]?=W.heap[k]?:=fun k hk=>by rw [h1];exact setCells_other _ _ _ _ _ hk
 have a2:∀ k,k≠b+1->W2.heap[k]?=W1.heap[k]?:=fun k hk=>by rw [h2];exact(heap_setCell_other _ ⟨b+1,1,none⟩ k _ (fun e=>hk e)).trans (heap_setCell_other _ ⟨b+1,0,none⟩ k _ (fun e=>hk e))
 have a3:∀ k,k≠b+1+1->W3.heap[k]?=W2.heap[k]?:=fun k hk=>by rw [h3];exact setCells_other _ _ _ _ _ hk
 have q0:Bk W1 b 28 cm:=by rw [h1];exact r0.fill (by rw [hl];rfl)
 have q1:Bk W1 (b+1) 31 [.int .i64 0,.slice none 0 0]:=(a1 _ (by omega)).trans r1
 have q2:Bk W2 (b+1+1) 37 [.slice none 0 0,.slice none 0 0,.slice none 0 0,.slice none 0 0,.slice none 0 0]:=(a2 _ (by omega)).trans ((a1 _ (by omega)).trans r2)
 have p1:Bk W2 (b+1) 31 [v0,v1]:=by rw [h2];exact(q1.set 0 _).set 1 _
 refine⟨⟨q1,q2⟩,⟨(a3 _ (by omega)).trans ((a2 _ (by omega)).trans q0),(a3 _ (by omega)).trans p1,by rw [h3];exact q2.fill (by rw [hf];rfl)⟩,fun k hk=>?_,by rw [h3,h2,h1];simp [setCells_size],?_⟩
 ·have e1:=a1 k (by omega)
  have e2:=(a2 k (by omega)).trans e1
  exact⟨e1,e2,(a3 k (by omega)).trans e2⟩
 ·rw [h3,h2,h1]
  exact Below.setCells (bls2 (Below.setCells (Below.refl _ _) (Nat.le_refl _) _ _) (Nat.le_succ _) _ _) (by omega) _ _
theorem buildE_ch (md:ModelD) (q:QueryD) (b:BoxD):(buildE md q b).1.fChoices.length<=400:=by
 unfold buildE
 split
 ·rename_i h
  obtain⟨_,_,_,_,h1,h2,_⟩:=canBuild_parts h
  show(buildOf md q b _).fChoices.length<=400
  rw [(buildOf_len md q b _).2.1];omega
 ·simp [zSpace]
theorem sizeMoT3:(Tryz.prog.info? 28).map (·.size)=some 30:=by kernel_rfl
set_option maxRecDepth 100000 in
set_option maxHeartbeats 12800000 in
theorem l30Space_c (g:Nat) (w:World) (hc:Cur w g):Calls Tryz.prog 45 #[.pointer (some ⟨g,0,none⟩)] w (DrawnSp g w):=by
 have hgw:=hc.lt
 obtain⟨w1,hw1⟩:∃ W,W=w.alloc (.cells #[.int .i64 0,.int .i64 0,.int .i64 0,.int .i64 0,.int .i64 0,.slice none 0 0,.int .i64 0,.int .i64 0,.int .i64 0,.int .i64 0,.int .i64 0,.slice none 0 0,.int .i64 0,.int .i64 0,.int .i64 0,.int .i64 0,.int .i64 0,.slice none 0 0,.int .i64 0,.int .i64 0,.int .i64 0,.int .i64 0,.int .i64 0,.slice none 0 0,.int .i64 0,.int .i64 0,.int .i64 0,.int .i64 0,.int .i64 0,.slice none 0 0] 28):=⟨_,rfl⟩
 obtain⟨w2,hw2⟩:∃ W,W=w1.alloc (.cells #[.int .i64 0,.slice none 0 0] 31):=⟨_,rfl⟩
 obtain⟨w3,hw3⟩:∃ W,W=w2.alloc (.cells #[.slice none 0 0,.slice none 0 0,.slice none 0 0,.slice none 0 0,.slice none 0 0] 37):=⟨_,rfl⟩
 have hs1:w1.heap.size=w.heap.size+1:=by rw [hw1];simp
 have hs2:w2.heap.size=w.heap.size+1+1:=by rw [hw2];simp [hs1]
 have hs3:w3.heap.size=w.heap.size+3:=by rw [hw3];simp [hs2]
 have b1:Below w.heap.size w w1:=by rw [hw1];exact(Below.refl _ _).alloc (Nat.le_refl _) _
 have b2:Below w1.heap.size w1 w2:=by rw [hw2];exact(Below.refl _ _).alloc (Nat.le_refl _) _
 have b3:Below w2.heap.size w2 w3:=by rw [hw3];exact(Below.refl _ _).alloc (Nat.le_refl _) _
 have r0:Bk w3 w.heap.size 28 [.int .i64 0,.int .i64 0,.int .i64 0,.int .i64 0,.int .i64 0,.slice none 0 0,.int .i64 0,.int .i64 0,.int .i64 0,.int .i64 0,.int .i64 0,.slice none 0 0,.int .i64 0,.int .i64 0,.int .i64 0,.int .i64 0,.int .i64 0,.slice none 0 0,.int .i64 0,.int .i64 0,.int .i64 0,.int .i64 0,.int .i64 0,.slice none 0 0,.int .i64 0,.int .i64 0,.int .i64 0,.int .i64 0,.int .i64 0,.slice none 0 0]:=Bk.below (w:=w2) (Bk.below (w:=w1) (by rw [hw1];exact Bk.new w _ _) b2) b3
 have r1:Bk w3 (w.heap.size+1) 31 [.int .i64 0,.slice none 0 0]:=Bk.below (w:=w2) (by rw [hw2,<- hs1];exact Bk.new w1 _ _) b3
 have r2:Bk w3 (w.heap.size+1+1) 37 [.slice none 0 0,.slice none 0 0,.slice none 0 0,.slice none 0 0,.slice none 0 0]:=by rw [hw3,<- hs2];exact Bk.new w2 _ _
 have C3:Chg [g] w w3:=Chg.ofBelow ((b1.trans (b2.mono b1.size)).trans (b3.mono (by omega))) _
 have cu3:=((hc.below b1).below b2).below b3
 have HW:Hid (w1=w.alloc (.cells #[.int .i64 0,.int .i64 0,.int .i64 0,.int .i64 0,.int .i64 0,.slice none 0 0,.int .i64 0,.int .i64 0,.int .i64 0,.int .i64 0,.int .i64 0,.slice none 0 0,.int .i64 0,.int .i64 0,.int .i64 0,.int .i64 0,.int .i64 0,.slice none 0 0,.int .i64 0,.int .i64 0,.int .i64 0,.int .i64 0,.int .i64 0,.slice none 0 0,.int .i64 0,.int .i64 0,.int .i64 0,.int .i64 0,.int .i64 0,.slice none 0 0] 28)/\w2=w1.alloc (.cells #[.int .i64 0,.slice none 0 0] 31)/\w3=w2.alloc (.cells #[.slice none 0 0,.slice none 0 0,.slice none 0 0,.slice none 0 0,.slice none 0 0] 37)):=⟨hw1,hw2,hw3⟩
 have HS3:=Lib.hid hs3
 clear hw1 hw2 hw3 hs1 hs2 hs3 b1 b2 b3
 go_enter Tryz.func45,Tryz.ntmps45
 go_upto_region 1 with fail
 obtain⟨hw1,hw2,hw3⟩:=HW.out
 rw [<- hw1,<- hw2,<- hw3]
 clear hw1 hw2 hw3 HW
 go_wp2_with fail
 refine(l22Model_c g w3 cu3).mono ?_
 rintro e w4 ⟨m,cm,rfl,SM,cu4,ch4⟩
 have lenm:=(rModel_ok NB).len SM.rep
 have ON:=one_rep (rModel_ok NB) SM.rep
 have hcz:cm.toArray.size=30:=List.size_toArray.trans lenm
 obtain⟨gM,hgM⟩:∃ z,z=w4.heap.size:=⟨_,rfl⟩
 obtain⟨w5,hw5⟩:∃ W,W=w4.alloc (.cells #[.int .i64 0,.int .i64 0,.int .i64 0,.int .i64 0,.int .i64 0,.slice none 0 0,.int .i64 0,.int .i64 0,.int .i64 0,.int .i64 0,.int .i64 0,.slice none 0 0,.int .i64 0,.int .i64 0,.int .i64 0,.int .i64 0,.int .i64 0,.slice none 0 0,.int .i64 0,.int .i64 0,.int .i64 0,.int .i64 0,.int .i64 0,.slice none 0 0,.int .i64 0,.int .i64 0,.int .i64 0,.int .i64 0,.int .i64 0,.slice none 0 0] 28):=⟨_,rfl⟩
 have b5:Below w4.heap.size w4 w5:=by rw [hw5];exact(Below.refl _ _).alloc (Nat.le_refl _) _
 have kM0:Bk w5 gM 28 [.int .i64 0,.int .i64 0,.int .i64 0,.int .i64 0,.int .i64 0,.slice none 0 0,.int .i64 0,.int .i64 0,.int .i64 0,.int .i64 0,.int .i64 0,.slice none 0 0,.int .i64 0,.int .i64 0,.int .i64 0,.int .i64 0,.int .i64 0,.slice none 0 0,.int .i64 0,.int .i64 0,.int .i64 0,.int .i64 0,.int .i64 0,.slice none 0 0,.int .i64 0,.int .i64 0,.int .i64 0,.int .i64 0,.int .i64 0,.slice none 0 0]:=by rw [hw5,hgM];exact Bk.new w4 _ _
 have TH:w5.there gM 0 cm.toArray.size:=by rw [hcz];exact kM0.there
 obtain⟨w6,hw6⟩:∃ W,W=setCells w5 gM 0 cm:=⟨_,rfl⟩
 have b6:Below w4.heap.size w4 w6:=by rw [hw6];exact Below.setCells b5 (by rw [hgM];exact Nat.le_refl _) _ _
 have kM:Bk w6 gM 28 cm:=by rw [hw6];exact kM0.fill (by rw [lenm];rfl)
 have hgM3:w.heap.size+3<=gM:=by rw [hgM,<- HS3.out];exact ch4.size
 have C6:Chg [g] w3 w6:=ch4.trans (Chg.ofBelow b6 _)
 have cu6:=cu4.below b6
 have HM:Stb (rModel NB) (w.heap.size+3) w6 cm m:=by rw [<- HS3.out];exact SM.out ⟨b6.size,fun k _ hk=>b6.block k hk⟩
 have HWK:Hid (w5.setCells gM 0 cm.toArray.toList=w6):=by show _=_;rw [setCells_kit,hw6]
 have HW5:=Lib.hid hw5
 have HGM:=Lib.hid hgM
 clear hgM hw5 hw6 b5 b6 ch4 cu4 kM0 SM cu3
 go_wp2_with (refine wpList_store_mid rfl 28 _ _ rfl gM 0 cm.toArray (by rw [HGM.out];rfl) rfl (by rw [<- HW5.out];exact TH) (by rw [hcz];exact sizeMoT3) ON ?_;rw [<- HW5.out,HWK.out,<- HGM.out])
 clear HWK HW5 HGM TH ON hcz
 refine(l30Query_c g w6 cu6).mono ?_
 rintro e w7 ⟨q,csq,fq,rfl,oQ,fQ,hvq,cu7,ch7⟩
 obtain⟨Aq,nq,cq,fA,rfl,rfl,hqv,oqA⟩:=rQuery_own.1 oQ
 obtain⟨vc,hvc⟩:∃ v,v=q.fVariableCount:=⟨_,rfl⟩
 obtain⟨gQ,hgQ⟩:∃ z,z=w7.heap.size:=⟨_,rfl⟩
 obtain⟨w8,hw8⟩:∃ W,W=w7.alloc (.cells #[.int .i64 q.fVariableCount,.slice Aq nq cq] 31):=⟨_,rfl⟩
 have b8:Below w7.heap.size w7 w8:=by rw [hw8];exact(Below.refl _ _).alloc (Nat.le_refl _) _
 have C8:Chg [g] w6 w8:=ch7.trans (Chg.ofBelow b8 _)
 have D8:=C6.trans C8
 have cu8:=cu7.below b8
 have h36:w3.heap.size<=w6.heap.size:=C6.size
 have hs3:=HS3.out
 have X:Sxw w g gM gQ cm m vc Aq nq cq q w8:=by
  have hgq:w.heap.size+3<=gQ:=by rw [hgQ];have:=ch7.size;omega
  have ho:Out (w.heap.size+3) w6 w8:=Out.chg C8 (by simp;omega)
  refine⟨(D8.block _ r0.lt (by simp;omega)).trans r0,(D8.block _ r1.lt (by simp;omega)).trans r1,(D8.block _ r2.lt (by simp;omega)).trans r2,(C8.block _ kM.lt (by simp;omega)).trans kM,?_,HM.out ho,?_,C3.trans D8,hgw,hgM3,hgq⟩
  ·rw [hw8,hgQ,hvc];exact Bk.new w7 _ _
  ·rw [hvc];exact Stb.ofOwn (rQuery_ok NB) ((rQuery_ok NB).ownB oQ b8) (fun k hk=>by have:=fQ.ge k hk;omega)
 go_upto_region 3 with fail
 rw [<- hw8,<- hgQ,<- hvc]
 clear hw8 hgQ hvc b8 C8 D8 h36 hs3 HS3 cu7 ch7 oQ fQ hvq hqv oqA C6 C3 r0 r1 r2 kM HM cu6 hgM3 hc
 have HSS:Hid (∀ w',Chg [g] w8 w'->(w'.rangeAt gM 0 cm/\w'.cell? ⟨gQ,0,none⟩=some (.int .i64 vc)/\w'.cell? ⟨gQ,1,none⟩=some (.slice Aq nq cq))):=by
  show ∀ w',_->_
  intro w' h
  have Y:=X.at h
  exact⟨Y.kM.rangeAt,Y.kQ.bx 0 _ rfl,Y.kQ.bx 1 _ rfl⟩
 have hd0:Chg [g] w8 w8.drew:=Chg.ofBelow (Below.refl _ _).drew _
 have cud:Cur w8.drew g:=cu8.below (Below.refl _ _).drew
 have hvcq:q.fVariableCount=vc:=by
  obtain⟨A,n,c,e,_⟩:=rQuery_rep.1 X.HQ.rep
  injection e with e;injection e with e1 e2;exact e2.symm
 have hg8:w.heap.size+3<=w8.heap.size:=by have:=X.kQ.lt;have:=X.gq;omega
 refine hbg HSS.out hd0 (fun hHeld=>?_)
 refine' wpAnyH_take (i:=0) (oi:=⟨some 14,_,_,_,_,_⟩) (v:=_) rfl (by kernel_rfl) (by kernel_rfl) (by kernel_rfl) (fun _ _ _ h=>h) (yieldsIf_load_mid (by rfl) _ _ rfl _ _ rfl _ _ (fun w h=>h.1) Tryz.underlying28 rfl (by rw [lenm];exact sizeModelT)) hHeld ?_
 simp only [putS]
 refine tka 1 15 hHeld ?_;simp only [putS]
 refine tka 2 16 hHeld ?_;simp only [putS]
 refine tka 3 17 hHeld ?_;simp only [putS]
 refine rd2 4 (some 18) 9 (some 7) (fun K hK=>?_) fun K hK=>?_
 all_goals clear hHeld
 focus
  go_simp
  have hbx:=l24Box_c g q Aq nq cq (w.heap.size+3) w8.drew cud (by omega) (by have:=(hd0).size;omega) (by rw [hvcq];exact(X.at hd0).HQ)
  rw [hvcq]at hbx
  refine hbx.mono ?_
  clear hbx
  rintro e U4 ⟨b,csb,fb,rfl,oB,fB,_,cu4,ch4⟩
  have D4:Chg [g] w8 U4:=(hd0).trans ch4
  have rB:=(rBox_ok NB).toRep oB
  go_wp2_with fail
  refine hK.out _ _ (HSS.out _ D4) (fun hHeld=>?_)
  clear hK K
  try simp only [putS]
  refine rd2 5 (some 19) 9 (some 7) (fun K hK=>?_) fun K hK=>?_
  all_goals clear hHeld
  focus
   go_simp
   refine(sBuildSpace_c cm m [.int .i64 vc,.slice Aq nq cq] q csb b U4 (X.at D4).HM.rep (X.at D4).HQ.rep rB).mono ?_
   rintro e U5 ⟨csS,fS,rfl,oS,fS2,hb5⟩
   have D5:Chg [g] w8 U5:=(D4).trans (Chg.ofBelow hb5 _)
   go_wp2_with fail
   refine hK.out _ _ (HSS.out _ D5) (fun hHeld=>?_)
   clear hK K
   try simp only [putS]
   refine tka 6 13 hHeld ?_;simp only [putS]
   refine tka 7 20 hHeld ?_;simp only [putS]
   refine tka 8 21 hHeld ?_;simp only [putS]
   have cu5:=cu4.below hb5
   have hCa:Chg [g] w8 (U5.alloc (.cells #[.slice none 0 0,.slice none 0 0,.slice none 0 0,.slice none 0 0,.slice none 0 0] 37)):=(D5).trans (Chg.ofBelow ((Below.refl _ _).alloc (Nat.le_refl _) _) _)
   refine rd 9 (some 7) fun K hK=>?_
   clear hHeld
   go_simp
   refine hK.out _ _ (HSS.out _ hCa) (fun hHeld=>?_)
   clear hK K
   try simp only [putS]
   obtain⟨gS,hg0⟩:∃ g,g=U5.heap.size:=⟨_,rfl⟩
   obtain⟨Ua,hUa⟩:∃ W,W=U5.alloc (.cells #[.slice none 0 0,.slice none 0 0,.slice none 0 0,.slice none 0 0,.slice none 0 0] 37):=⟨_,rfl⟩
   have kx:Bk Ua gS 37 [.slice none 0 0,.slice none 0 0,.slice none 0 0,.slice none 0 0,.slice none 0 0]:=by rw [hUa,hg0];exact Bk.new U5 _ _
   have D6:Chg [g] w8 Ua:=by rw [hUa];exact hCa
   have cua:Cur Ua g:=by rw [hUa];exact(cu5).below ((Below.refl _ _).alloc (Nat.le_refl _) _)
   have ba:Below U5.heap.size U5 Ua:=by rw [hUa];exact((Below.refl _ _).alloc (Nat.le_refl _) _)
   have hgl:w8.heap.size<=gS:=by rw [hg0];exact(D5).size
   rw [<- hUa]at hHeld ⊢
   rw [<- hg0]
   clear hCa
   have DZ:=D6
   have hgn:gS∉fS:=fun e=>by have:=(rSpace_ok NB).lt oS gS e;omega
   replace oS:=(rSpace_ok NB).ownB oS ba
   have fS9:Fr w8.heap.size fS:=fS2.mono (by have:=D4.size;omega)
   clear hUa hg0 ba D6 rB oB fB
   have hbw:w8.heap.size<=gS:=by omega
   obtain⟨AL,nL,cL,AH,nH,cH,AC,nC,cC,AK,nK,cK,AP,nP,cP,rfl,_⟩:=rSpace_rep.1 ((rSpace_ok NB).toRep oS)
   have ⟨r0,z0,r1,z1,r2,z2,r3,z3,r4,z4⟩:=kx.r5
   have hlow:Below w8.heap.size Ua (set5 Ua gS (.slice AL nL cL) (.slice AH nH cH) (.slice AC nC cC) (.slice AK nK cK) (.slice AP nP cP)):=bls5 (Below.refl _ _) (by omega) _ _ _ _ _
   have hC9:Chg [g] w8 (set5 Ua gS (.slice AL nL cL) (.slice AH nH cH) (.slice AC nC cC) (.slice AK nK cK) (.slice AP nP cP)):=Chg.low DZ hlow
   refine rd 10 none fun K hK=>?_
   clear hHeld
   go_simp
   refine hK.out _ _ (HSS.out _ hC9) (fun hHeld=>?_)
   clear hK K
   try simp only [putS]
   refine tka 11 8 hHeld ?_;simp only [putS]
   refine wpAnyH_done (by kernel_rfl) ?_ _
   clear hHeld
   obtain⟨W9,hW9⟩:∃ W,W=((((Ua.setCell ⟨gS,0,none⟩ (.slice AL nL cL)).setCell ⟨gS,1,none⟩ (.slice AH nH cH)).setCell ⟨gS,2,none⟩ (.slice AC nC cC)).setCell ⟨gS,3,none⟩ (.slice AK nK cK)).setCell ⟨gS,4,none⟩ (.slice AP nP cP):=⟨_,rfl⟩
   have D9:Chg [g] w8 W9:=by rw [hW9];exact hC9
   have cu9:Cur W9 g:=by rw [hW9];exact(cua).low (by have:=cu8.lt;omega) hlow
   have o9:(rSpace NB).own W9 fS [.slice AL nL cL,.slice AH nH cH,.slice AC nC cC,.slice AK nK cK,.slice AP nP cP] (buildE m q b).1:=by rw [hW9];exact(rSpace_ok NB).okeep oS (fun z hz=>set5_ne (fun e=>hgn (by rw [<- e];exact hz)) _ _ _ _ _)
   have k9:Bk W9 gS 37 [.slice AL nL cL,.slice AH nH cH,.slice AC nC cC,.slice AK nK cK,.slice AP nP cP]:=by rw [hW9];exact kx.set5 _ _ _ _ _
   rw [<- hW9]
   clear hW9 kx hC9 hlow oS r0 z0 r1 z1 r2 z2 r3 z3 r4 z4 DZ HSS hd0 cud
  rotate_left
  focus
   have hCa:Chg [g] w8 (U4.alloc (.cells #[.slice none 0 0,.slice none 0 0,.slice none 0 0,.slice none 0 0,.slice none 0 0] 37)):=(D4).trans (Chg.ofBelow ((Below.refl _ _).alloc (Nat.le_refl _) _) _)
   go_simp
   refine hK.out _ _ (HSS.out _ hCa) (fun hHeld=>?_)
   clear hK K
   try simp only [putS]
   obtain⟨gS,hg0⟩:∃ g,g=U4.heap.size:=⟨_,rfl⟩
   obtain⟨Ua,hUa⟩:∃ W,W=U4.alloc (.cells #[.slice none 0 0,.slice none 0 0,.slice none 0 0,.slice none 0 0,.slice none 0 0] 37):=⟨_,rfl⟩
   have kx:Bk Ua gS 37 [.slice none 0 0,.slice none 0 0,.slice none 0 0,.slice none 0 0,.slice none 0 0]:=by rw [hUa,hg0];exact Bk.new U4 _ _
   have D6:Chg [g] w8 Ua:=by rw [hUa];exact hCa
   have cua:Cur Ua g:=by rw [hUa];exact(cu4).below ((Below.refl _ _).alloc (Nat.le_refl _) _)
   have ba:Below U4.heap.size U4 Ua:=by rw [hUa];exact((Below.refl _ _).alloc (Nat.le_refl _) _)
   have hgl:w8.heap.size<=gS:=by rw [hg0];exact(D4).size
   rw [<- hUa]at hHeld ⊢
   rw [<- hg0]
   clear hCa
   clear hUa hg0
   replace rB:=(rBox_ok NB).keep rB (cells_below ba)
   clear ba
   refine rd 5 (some 19) fun K hK=>?_
   clear hHeld
   go_simp
   refine(sBuildSpace_c cm m [.int .i64 vc,.slice Aq nq cq] q csb b Ua (X.at D6).HM.rep (X.at D6).HQ.rep rB).mono ?_
   rintro e U5 ⟨csS,fS,rfl,oS,fS2,hb5⟩
   have D5:Chg [g] w8 U5:=(D6).trans (Chg.ofBelow hb5 _)
   go_wp2_with fail
   refine hK.out _ _ (HSS.out _ D5) (fun hHeld=>?_)
   clear hK K
   try simp only [putS]
   refine tka 6 13 hHeld ?_;simp only [putS]
   refine tka 7 20 hHeld ?_;simp only [putS]
   refine tka 8 21 hHeld ?_;simp only [putS]
   have hxl:=kx.lt
   replace kx:=kx.below hb5
   have cu5:=cua.below hb5
   have DZ:=D5
   have hgn:gS∉fS:=fun e=>by have:=fS2.ge gS e;omega
   have fS9:Fr w8.heap.size fS:=fS2.mono (by omega)
   clear rB oB fB
   have hbw:w8.heap.size<=gS:=by omega
   obtain⟨AL,nL,cL,AH,nH,cH,AC,nC,cC,AK,nK,cK,AP,nP,cP,rfl,_⟩:=rSpace_rep.1 ((rSpace_ok NB).toRep oS)
   have ⟨r0,z0,r1,z1,r2,z2,r3,z3,r4,z4⟩:=kx.r5
   have hlow:Below w8.heap.size U5 (set5 U5 gS (.slice AL nL cL) (.slice AH nH cH) (.slice AC nC cC) (.slice AK nK cK) (.slice AP nP cP)):=bls5 (Below.refl _ _) (by omega) _ _ _ _ _
   have hC9:Chg [g] w8 (set5 U5 gS (.slice AL nL cL) (.slice AH nH cH) (.slice AC nC cC) (.slice AK nK cK) (.slice AP nP cP)):=Chg.low DZ hlow
   refine rd 10 none fun K hK=>?_
   clear hHeld
   go_simp
   refine hK.out _ _ (HSS.out _ hC9) (fun hHeld=>?_)
   clear hK K
   try simp only [putS]
   refine tka 11 8 hHeld ?_;simp only [putS]
   refine wpAnyH_done (by kernel_rfl) ?_ _
   clear hHeld
   obtain⟨W9,hW9⟩:∃ W,W=((((U5.setCell ⟨gS,0,none⟩ (.slice AL nL cL)).setCell ⟨gS,1,none⟩ (.slice AH nH cH)).setCell ⟨gS,2,none⟩ (.slice AC nC cC)).setCell ⟨gS,3,none⟩ (.slice AK nK cK)).setCell ⟨gS,4,none⟩ (.slice AP nP cP):=⟨_,rfl⟩
   have D9:Chg [g] w8 W9:=by rw [hW9];exact hC9
   have cu9:Cur W9 g:=by rw [hW9];exact(cu5).low (by have:=cu8.lt;omega) hlow
   have o9:(rSpace NB).own W9 fS [.slice AL nL cL,.slice AH nH cH,.slice AC nC cC,.slice AK nK cK,.slice AP nP cP] (buildE m q b).1:=by rw [hW9];exact(rSpace_ok NB).okeep oS (fun z hz=>set5_ne (fun e=>hgn (by rw [<- e];exact hz)) _ _ _ _ _)
   have k9:Bk W9 gS 37 [.slice AL nL cL,.slice AH nH cH,.slice AC nC cC,.slice AK nK cK,.slice AP nP cP]:=by rw [hW9];exact kx.set5 _ _ _ _ _
   rw [<- hW9]
   clear hW9 kx hC9 hlow oS r0 z0 r1 z1 r2 z2 r3 z3 r4 z4 DZ HSS hd0 cud
 rotate_left 2
 focus
  have hCa:Chg [g] w8 (w8.drew.alloc (.cells #[.slice none 0 0,.slice none 0 0,.slice none 0 0,.slice none 0 0,.slice none 0 0] 37)):=(hd0).trans (Chg.ofBelow ((Below.refl _ _).alloc (Nat.le_refl _) _) _)
  go_simp
  refine hK.out _ _ (HSS.out _ hCa) (fun hHeld=>?_)
  clear hK K
  try simp only [putS]
  obtain⟨gS,hg0⟩:∃ g,g=w8.heap.size:=⟨_,rfl⟩
  obtain⟨Ua,hUa⟩:∃ W,W=(w8.alloc (.cells #[.slice none 0 0,.slice none 0 0,.slice none 0 0,.slice none 0 0,.slice none 0 0] 37)).drew:=⟨_,rfl⟩
  have kx:Bk Ua gS 37 [.slice none 0 0,.slice none 0 0,.slice none 0 0,.slice none 0 0,.slice none 0 0]:=by rw [hUa,hg0];exact Bk.new w8 _ _
  have D6:Chg [g] w8 Ua:=by rw [hUa];exact hCa
  have cua:Cur Ua g:=by rw [hUa];exact(cu8.below ((Below.refl _ _).alloc (Nat.le_refl _) _)).below (Below.refl _ _).drew
  have ba:Below w8.heap.size w8 Ua:=by rw [hUa];exact((Below.refl _ _).alloc (Nat.le_refl _) _).drew
  have hgl:w8.heap.size<=gS:=by rw [hg0];exact(hd0).size
  rw [<- hUa]at hHeld ⊢
  rw [<- hg0]
  clear hCa
  clear hUa hg0
  have hgg:gS≠g:=by have:=cu8.lt;omega
  have hxa:=kx.lt
  refine rd 4 (some 18) fun K hK=>?_
  clear hHeld
  go_simp
  have hbx:=l24Box_c g q Aq nq cq (w.heap.size+3) Ua cua (by omega) (by have:=(D6).size;omega) (by rw [hvcq];exact(X.at D6).HQ)
  rw [hvcq]at hbx
  refine hbx.mono ?_
  clear hbx
  rintro e U4 ⟨b,csb,fb,rfl,oB,fB,_,cu4,ch4⟩
  have D4:Chg [g] w8 U4:=(D6).trans ch4
  have rB:=(rBox_ok NB).toRep oB
  go_wp2_with fail
  refine hK.out _ _ (HSS.out _ D4) (fun hHeld=>?_)
  clear hK K
  try simp only [putS]
  replace kx:Bk U4 gS 37 [.slice none 0 0,.slice none 0 0,.slice none 0 0,.slice none 0 0,.slice none 0 0]:=(ch4.block _ kx.lt (by simp;omega)).trans kx
  clear cua
  refine rd 5 (some 19) fun K hK=>?_
  clear hHeld
  go_simp
  refine(sBuildSpace_c cm m [.int .i64 vc,.slice Aq nq cq] q csb b U4 (X.at D4).HM.rep (X.at D4).HQ.rep rB).mono ?_
  rintro e U5 ⟨csS,fS,rfl,oS,fS2,hb5⟩
  have D5:Chg [g] w8 U5:=(D4).trans (Chg.ofBelow hb5 _)
  go_wp2_with fail
  refine hK.out _ _ (HSS.out _ D5) (fun hHeld=>?_)
  clear hK K
  try simp only [putS]
  refine tka 6 13 hHeld ?_;simp only [putS]
  refine tka 7 20 hHeld ?_;simp only [putS]
  refine tka 8 21 hHeld ?_;simp only [putS]
  have hxl:=kx.lt
  replace kx:=kx.below hb5
  have cu5:=cu4.below hb5
  have DZ:=D5
  have hgn:gS∉fS:=fun e=>by have:=fS2.ge gS e;omega
  have fS9:Fr w8.heap.size fS:=fS2.mono (by omega)
  clear rB oB fB
  have hbw:w8.heap.size<=gS:=by omega
  obtain⟨AL,nL,cL,AH,nH,cH,AC,nC,cC,AK,nK,cK,AP,nP,cP,rfl,_⟩:=rSpace_rep.1 ((rSpace_ok NB).toRep oS)
  have ⟨r0,z0,r1,z1,r2,z2,r3,z3,r4,z4⟩:=kx.r5
  have hlow:Below w8.heap.size U5 (set5 U5 gS (.slice AL nL cL) (.slice AH nH cH) (.slice AC nC cC) (.slice AK nK cK) (.slice AP nP cP)):=bls5 (Below.refl _ _) (by omega) _ _ _ _ _
  have hC9:Chg [g] w8 (set5 U5 gS (.slice AL nL cL) (.slice AH nH cH) (.slice AC nC cC) (.slice AK nK cK) (.slice AP nP cP)):=Chg.low DZ hlow
  refine rd 10 none fun K hK=>?_
  clear hHeld
  go_simp
  refine hK.out _ _ (HSS.out _ hC9) (fun hHeld=>?_)
  clear hK K
  try simp only [putS]
  refine tka 11 8 hHeld ?_;simp only [putS]
  refine wpAnyH_done (by kernel_rfl) ?_ _
  clear hHeld
  obtain⟨W9,hW9⟩:∃ W,W=((((U5.setCell ⟨gS,0,none⟩ (.slice AL nL cL)).setCell ⟨gS,1,none⟩ (.slice AH nH cH)).setCell ⟨gS,2,none⟩ (.slice AC nC cC)).setCell ⟨gS,3,none⟩ (.slice AK nK cK)).setCell ⟨gS,4,none⟩ (.slice AP nP cP):=⟨_,rfl⟩
  have D9:Chg [g] w8 W9:=by rw [hW9];exact hC9
  have cu9:Cur W9 g:=by rw [hW9];exact(cu5).low (by have:=cu8.lt;omega) hlow
  have o9:(rSpace NB).own W9 fS [.slice AL nL cL,.slice AH nH cH,.slice AC nC cC,.slice AK nK cK,.slice AP nP cP] (buildE m q b).1:=by rw [hW9];exact(rSpace_ok NB).okeep oS (fun z hz=>set5_ne (fun e=>hgn (by rw [<- e];exact hz)) _ _ _ _ _)
  have k9:Bk W9 gS 37 [.slice AL nL cL,.slice AH nH cH,.slice AC nC cC,.slice AK nK cK,.slice AP nP cP]:=by rw [hW9];exact kx.set5 _ _ _ _ _
  rw [<- hW9]
  clear hW9 kx hC9 hlow oS r0 z0 r1 z1 r2 z2 r3 z3 r4 z4 DZ HSS hd0 cud
 all_goals
  obtain⟨s,hs⟩:∃ s,s=(buildE m q b).1:=⟨_,rfl⟩
  have hch:s.fChoices.length<=400:=by rw [hs];exact buildE_ch m q b
  rw [<- hs]at o9
  have H9:=Spd.new2 o9 fS9 k9 hbw
  have hgB:g<w8.heap.size:=by omega
  clear hs o9 k9
  go_wp2_with fail
  refine(l1Below_c g 14 W9 (by omega) cu9).mono ?_
  rintro e W10 ⟨t,rfl,⟨t0,_,t1⟩,cu10,ch10⟩
  have H10:=H9.step hgB ch10
  have D10:=D9.trans ch10
  clear H9 D9 cu9 ch10 t1
  by_cases ht0:t=0
  focus
   subst ht0
   have c2:=H10.kS.bx 2 _ rfl
   by_cases hC:(0:Int)<(nC:Int)
   focus
    have hCn:0<nC:=by omega
    have hnb:=H10.oC.nb
    obtain⟨bC,rfl,_,_⟩:=H10.mC.form hCn
    have HSS:=Lib.hid (fun (w':World) (h:∃ s,Spd w8.heap.size gS s AL nL cL AH nH cH (some ⟨bC,0,none⟩) nC cC AK nK cK AP nP cP w')=>(h.elim fun _ h=>h.kS.bx 2 _ rfl:w'.cell? ⟨gS,2,none⟩=some (.slice (some ⟨bC,0,none⟩) nC cC)))
    have H11:=H10.below (Below.refl W10.heap.size W10).drew
    have D11:Chg [g] w8 W10.drew:=D10.trans (Chg.ofBelow (Below.refl _ _).drew _)
    have cu11:Cur W10.drew g:=cu10.below (Below.refl _ _).drew
    have hgl2:=cu10.lt
    go_upto_region 7 with fail
    clear c2
    refine hbg HSS.out ⟨_,H11⟩ (fun hHeld=>?_)
    refine tka 0 30 hHeld ?_;simp only [putS]
    refine tka 1 31 hHeld ?_;simp only [putS]
    refine tka 2 32 hHeld ?_;simp only [putS]
    refine tka 3 33 hHeld ?_;simp only [putS]
    refine tka 4 34 hHeld ?_;simp only [putS]
    refine tka 5 35 hHeld ?_;simp only [putS]
    refine tka 7 37 hHeld ?_;simp only [putS]
    refine rd2 6 (some 36) 8 (some 38) (fun K hK=>?_) fun K hK=>?_
    all_goals clear hHeld
    focus
     go_simp
     refine(l1Below_c g nC _ (by unfold NB at hnb;omega) cu11).mono ?_
     rintro e W12 ⟨x,rfl,⟨x0,_,x1⟩,cu12,ch12⟩
     have H12:=H11.step hgB ch12
     have D12:=D11.trans ch12
     have x2:=x1 hC
     go_wp2_with fail
     refine hK.out _ _ (HSS.out _ ⟨_,H12⟩) (fun hHeld=>?_)
     clear hK K
     try simp only [putS]
     have ba:=(Below.refl W12.heap.size W12).alloc (Nat.le_refl _) (.cells #[.int .i64 0,.int .i64 1,.int .i64 3,.int .i64 100000] 3)
     have H13:=H12.below ba
     have D13:=D12.trans (Chg.ofBelow ba _)
     have cu13:=cu12.below ba
     have hne:∀ k∈blk (some (⟨W12.heap.size,0,none⟩:Addr)),k≠g:=fun k hk=>by simp [blk]at hk;have:=cu12.lt;omega
     refine rd 8 (some 38) fun K hK=>?_
     clear hHeld
     go_simp
     refine hK.out _ _ (HSS.out _ ⟨_,H13⟩) (fun hHeld=>?_)
     clear hK K
     try simp only [putS]
     refine rd 9 (some 39) fun K hK=>?_
     clear hHeld
     go_simp
     refine(l1PickInt_c g _ 4 4 [0,1,3,100000] _ (RS.lit W12 [0,1,3,100000] _ (by simp) (by simp [I64])) hne (by omega) cu13).mono ?_
     rintro e W14 ⟨v,rfl,hv,cu14,ch14⟩
     have H14:=H13.step hgB ch14
     have D14:=D13.trans ch14
     have hv2:0<=v/\v<=100000:=by simp at hv;omega
     go_wp2_with fail
     refine hK.out _ _ (HSS.out _ ⟨_,H14⟩) (fun hHeld=>?_)
     clear hK K
     try simp only [putS]
     clear H11 H12 H13 D11 D12 D13 cu11 cu12 cu13 ch12 ch14 ba hne hv x1
    rotate_left
    focus
     have ba:=(Below.refl W10.heap.size W10).drew.alloc (Nat.le_refl _) (.cells #[.int .i64 0,.int .i64 1,.int .i64 3,.int .i64 100000] 3)
     obtain⟨Ub,hUb⟩:∃ W,W=(W10.alloc (.cells #[.int .i64 0,.int .i64 1,.int .i64 3,.int .i64 100000] 3)).drew:=⟨_,rfl⟩
     have bb:Below W10.heap.size W10 Ub:=by rw [hUb];exact ba
     have H12:=H10.below bb
     have D12:=D10.trans (Chg.ofBelow bb _)
     have cu12:=cu10.below bb
     have rL:RS NB rInt Ub (some ⟨W10.heap.size,0,none⟩) 4 4 [0,1,3,100000]:=by rw [hUb];exact(RS.lit W10 [0,1,3,100000] _ (by simp) (by simp [I64])).below rInt_ok (Below.refl _ _).drew
     have hne:∀ k∈blk (some (⟨W10.heap.size,0,none⟩:Addr)),k≠g:=fun k hk=>by simp [blk]at hk;omega
     have H12x:Spd w8.heap.size gS s AL nL cL AH nH cH (some ⟨bC,0,none⟩) nC cC AK nK cK AP nP cP (W10.drew.alloc (.cells #[.int .i64 0,.int .i64 1,.int .i64 3,.int .i64 100000] 3)):=H10.below ba
     go_simp
     refine hK.out _ _ (HSS.out _ ⟨_,H12x⟩) (fun hHeld=>?_)
     clear hK K
     try simp only [putS]
     rw [<- hUb]at hHeld ⊢
     clear hUb ba bb H12x
     refine rd 6 (some 36) fun K hK=>?_
     clear hHeld
     go_simp
     refine(l1Below_c g nC _ (by unfold NB at hnb;omega) cu12).mono ?_
     rintro e W13 ⟨x,rfl,⟨x0,_,x1⟩,cu13,ch13⟩
     have H13:=H12.step hgB ch13
     have D13:=D12.trans ch13
     have x2:=x1 hC
     replace rL:=rL.chgR ch13 hne
     go_wp2_with fail
     refine hK.out _ _ (HSS.out _ ⟨_,H13⟩) (fun hHeld=>?_)
     clear hK K
     try simp only [putS]
     refine rd 9 (some 39) fun K hK=>?_
     clear hHeld
     go_simp
     refine(l1PickInt_c g _ 4 4 [0,1,3,100000] _ rL hne (by omega) cu13).mono ?_
     rintro e W14 ⟨v,rfl,hv,cu14,ch14⟩
     have H14:=H13.step hgB ch14
     have D14:=D13.trans ch14
     have hv2:0<=v/\v<=100000:=by simp at hv;omega
     go_wp2_with fail
     refine hK.out _ _ (HSS.out _ ⟨_,H14⟩) (fun hHeld=>?_)
     clear hK K
     try simp only [putS]
     clear H11 H12 H13 D11 D12 D13 cu11 cu12 cu13 ch13 ch14 hne hv x1 rL
    all_goals
     obtain⟨j,rfl⟩:∃ j:Nat,x=j:=⟨x.toNat,by omega⟩
     have hj:j<nC:=by omega
     refine tka 10 40 hHeld ?_;simp only [putS]
     have hXc:=H14.mC.frozen j
     obtain⟨u,hu⟩:∃ u,W14.cell? ⟨bC,j,none⟩=some u:=by obtain⟨u,hu,_⟩:=H14.mC.celli (k:=j) hj;exact⟨_,by simpa using hu⟩
     have H15:=H14.setC j (x:=v) ⟨by omega,by omega⟩
     have hbC:=(H14.gC bC (by simp [blk])).1
     have cu15:Cur (W14.setCell ⟨bC,j,none⟩ (.int .i64 v)) g:=cu14.low hgB ((Below.refl _ _).setCell (p:=⟨bC,j,none⟩) hbC _)
     refine rd 11 none fun K hK=>?_
     clear hHeld
     go_simp
     refine hK.out _ _ (HSS.out _ ⟨_,H15⟩) (fun hHeld=>?_)
     clear hK K
     try simp only [putS]
     refine wpAnyH_done (by kernel_rfl) ?_ _
     clear hHeld
     obtain⟨W15,hW15⟩:∃ W,W=W14.setCell ⟨bC,j,none⟩ (.int .i64 v):=⟨_,rfl⟩
     have D15:Chg [g] w8 W15:=by rw [hW15];exact Chg.low D14 ((Below.refl _ _).setCell (p:=⟨bC,j,none⟩) hbC _)
     rw [<- hW15]at H15 cu15 ⊢
     clear hW15 hu hXc H14 D14 cu14 HSS hbC
     obtain⟨csF,hF⟩:∃ c:List Value,c=[.slice AL nL cL,.slice AH nH cH,.slice (some ⟨bC,0,none⟩) nC cC,.slice AK nK cK,.slice AP nP cP]:=⟨_,rfl⟩
     have kF:Bk W15 gS 37 csF:=by rw [hF];exact H15.kS
     have lenF:csF.length=5:=by rw [hF];rfl
     have SF:∃ s,Stb (rSpace NB) w8.heap.size W15 csF s:=⟨_,by rw [hF];exact H15.stb⟩
     have cuF:=cu15
     have DF:=D15
     go_upto_region 12 with fail
     obtain⟨WF,hWF⟩:∃ W,W=W15:=⟨_,rfl⟩
     rw [<- hWF]at kF SF cuF DF ⊢
     clear hWF hF H15
     refine Hid.out (?_:Hid _)
   rotate_left 2
   focus
    clear c2
    have c2:=H10.kS.bx 2 _ rfl
    have hCd:decide ((0:Int)<(nC:Int))=false:=decide_eq_false hC
    obtain⟨csF,hF⟩:∃ c:List Value,c=[.slice AL nL cL,.slice AH nH cH,.slice AC nC cC,.slice AK nK cK,.slice AP nP cP]:=⟨_,rfl⟩
    have kF:Bk W10 gS 37 csF:=by rw [hF];exact H10.kS
    have lenF:csF.length=5:=by rw [hF];rfl
    have SF:∃ s,Stb (rSpace NB) w8.heap.size W10 csF s:=⟨_,by rw [hF];exact H10.stb⟩
    have cuF:=cu10
    have DF:=D10
    go_upto_region 12 with fail
    obtain⟨WF,hWF⟩:∃ W,W=W10:=⟨_,rfl⟩
    rw [<- hWF]at kF SF cuF DF ⊢
    clear hWF hF H10
    refine Hid.out (?_:Hid _)
  rotate_left 3
  focus
   by_cases ht1:t=1
   focus
    subst ht1
    have c3:=H10.kS.bx 3 _ rfl
    have ba:=(Below.refl W10.heap.size W10).alloc (Nat.le_refl _) (.cells #[.int .i64 0] 3)
    have H11:=H10.below ba
    have hnk:=H10.mK.len
    have hK1:nK+1<=NB:=by unfold NB;omega
    have hK8:(nK+1)*8<=140737488355328:=by omega
    have h8:=D10.size
    go_upto_region 12 with (at_builtin;refine wpList_appB rfl _ _ 32 rfl _ 8 eiInt rInt_ok rfl H10.mK ba h8 ⟨W10.heap.size,0,none⟩ rfl [] [.int .i64 0] 0 ⟨rfl,rfl,I64_zero⟩ (Fr.nil _) (cell_one_new _ _ _) hK1 (Nat.le_refl _) hK8 ?_;intro A6 c6 w6 hM6 hb6 hg6 hd6;obtain⟨k6,H16⟩:=H11.appK hM6 hg6 hd6;have p6:=k6.bx 3 _ rfl;have f6:=k6.frozen 3)
    obtain⟨W16,hW16⟩:∃ W,W=w6.setCell ⟨gS,3,none⟩ (.slice A6 (nK+1) c6):=⟨_,rfl⟩
    have hlo:Below w8.heap.size W10 W16:=by rw [hW16];exact((ba.mono h8).trans hb6).setCell (p:=⟨gS,3,none⟩) hbw _
    have D16:Chg [g] w8 W16:=Chg.low D10 hlo
    have cu16:=cu10.low hgB hlo
    rw [<- hW16]at H16 ⊢
    clear hW16 k6 p6 f6 hM6 hb6 hg6 hd6 H11 ba c3 hlo h8 hK1 hK8 hnk H10 D10 cu10
    obtain⟨csF,hF⟩:∃ c:List Value,c=[.slice AL nL cL,.slice AH nH cH,.slice AC nC cC,.slice A6 (nK+1) c6,.slice AP nP cP]:=⟨_,rfl⟩
    have kF:Bk W16 gS 37 csF:=by rw [hF];exact H16.kS
    have lenF:csF.length=5:=by rw [hF];rfl
    have SF:∃ s,Stb (rSpace NB) w8.heap.size W16 csF s:=⟨_,by rw [hF];exact H16.stb⟩
    have cuF:=cu16
    have DF:=D16
    go_upto_region 12 with fail
    obtain⟨WF,hWF⟩:∃ W,W=W16:=⟨_,rfl⟩
    rw [<- hWF]at kF SF cuF DF ⊢
    clear hWF hF H16
    refine Hid.out (?_:Hid _)
   rotate_left
   focus
    by_cases ht2:t=2
    focus
     subst ht2
     have c4:=H10.kS.bx 4 _ rfl
     have f4:=H10.kS.frozen 4
     have H16:=H10.nilP
     go_upto_region 12 with fail
     obtain⟨W16,hW16⟩:∃ W,W=W10.setCell ⟨gS,4,none⟩ (.slice none 0 0):=⟨_,rfl⟩
     have hlo:Below w8.heap.size W10 W16:=by rw [hW16];exact(Below.refl _ _).setCell (p:=⟨gS,4,none⟩) hbw _
     have D16:Chg [g] w8 W16:=Chg.low D10 hlo
     have cu16:=cu10.low hgB hlo
     rw [<- hW16]at H16 ⊢
     clear hW16 hlo c4 f4 H10 D10 cu10
     obtain⟨csF,hF⟩:∃ c:List Value,c=[.slice AL nL cL,.slice AH nH cH,.slice AC nC cC,.slice AK nK cK,.slice none 0 0]:=⟨_,rfl⟩
     have kF:Bk W16 gS 37 csF:=by rw [hF];exact H16.kS
     have lenF:csF.length=5:=by rw [hF];rfl
     have SF:∃ s,Stb (rSpace NB) w8.heap.size W16 csF s:=⟨_,by rw [hF];exact H16.stb⟩
     have cuF:=cu16
     have DF:=D16
     go_upto_region 12 with fail
     obtain⟨WF,hWF⟩:∃ W,W=W16:=⟨_,rfl⟩
     rw [<- hWF]at kF SF cuF DF ⊢
     clear hWF hF H16
     refine Hid.out (?_:Hid _)
    rotate_left
    focus
     skip
     obtain⟨csF,hF⟩:∃ c:List Value,c=[.slice AL nL cL,.slice AH nH cH,.slice AC nC cC,.slice AK nK cK,.slice AP nP cP]:=⟨_,rfl⟩
     have kF:Bk W10 gS 37 csF:=by rw [hF];exact H10.kS
     have lenF:csF.length=5:=by rw [hF];rfl
     have SF:∃ s,Stb (rSpace NB) w8.heap.size W10 csF s:=⟨_,by rw [hF];exact H10.stb⟩
     have cuF:=cu10
     have DF:=D10
     go_upto_region 12 with fail
     obtain⟨WF,hWF⟩:∃ W,W=W10:=⟨_,rfl⟩
     rw [<- hWF]at kF SF cuF DF ⊢
     clear hWF hF H10
     refine Hid.out (?_:Hid _)
 all_goals
  refine Lib.hid ?_
  have Y:=X.at DF
  obtain⟨sF,HSF⟩:=SF
  have h8F:=DF.size
  have hgw:=Y.gw
  have hgm:=Y.gm
  have hgq:=Y.gq
  have lenm:=(rModel_ok NB).len Y.HM.rep
  have ON:=one_rep (rModel_ok NB) Y.HM.rep
  have ON5:=one_rep (rSpace_ok NB) HSF.rep
  have hcz:cm.toArray.size=30:=List.size_toArray.trans lenm
  have hcz5:csF.toArray.size=5:=List.size_toArray.trans lenF
  obtain⟨W0,hW0⟩:∃ W,W=WF.drew:=⟨_,rfl⟩
  have R0:Bk W0 w.heap.size 28 [.int .i64 0,.int .i64 0,.int .i64 0,.int .i64 0,.int .i64 0,.slice none 0 0,.int .i64 0,.int .i64 0,.int .i64 0,.int .i64 0,.int .i64 0,.slice none 0 0,.int .i64 0,.int .i64 0,.int .i64 0,.int .i64 0,.int .i64 0,.slice none 0 0,.int .i64 0,.int .i64 0,.int .i64 0,.int .i64 0,.int .i64 0,.slice none 0 0,.int .i64 0,.int .i64 0,.int .i64 0,.int .i64 0,.int .i64 0,.slice none 0 0]:=by rw [hW0];exact Y.r0.below (Below.refl _ _).drew
  have R1:Bk W0 (w.heap.size+1) 31 [.int .i64 0,.slice none 0 0]:=by rw [hW0];exact Y.r1.below (Below.refl _ _).drew
  have R2:Bk W0 (w.heap.size+1+1) 37 [.slice none 0 0,.slice none 0 0,.slice none 0 0,.slice none 0 0,.slice none 0 0]:=by rw [hW0];exact Y.r2.below (Below.refl _ _).drew
  obtain⟨W1,h1⟩:∃ W,W=setCells W0 w.heap.size 0 cm:=⟨_,rfl⟩
  obtain⟨W2,h2⟩:∃ W,W=set2 W1 (w.heap.size+1) (.int .i64 vc) (.slice Aq nq cq):=⟨_,rfl⟩
  obtain⟨W3,h3⟩:∃ W,W=setCells W2 (w.heap.size+1+1) 0 csF:=⟨_,rfl⟩
  obtain⟨⟨t1,t2⟩,⟨u0,u1,u2⟩,hk,hsz,hbz⟩:=stores3 R0 R1 R2 lenm lenF (.int .i64 vc) (.slice Aq nq cq) h1 h2 h3
  have hk0:∀ k,¬ (w.heap.size<=k/\k<w.heap.size+3)->W1.heap[k]?=WF.heap[k]?/\W2.heap[k]?=WF.heap[k]?/\W3.heap[k]?=WF.heap[k]?:=fun k h=>by have:=hk k h;rw [hW0]at this;exact this
  have TH:W0.there w.heap.size 0 cm.toArray.size:=by rw [hcz];exact R0.there
  have TH2:W2.there (w.heap.size+1+1) 0 csF.toArray.size:=by rw [hcz5];exact t2.there
  have HSS:Hid (∀ w':World,(∀ k,¬ (w.heap.size<=k/\k<w.heap.size+3)->w'.heap[k]?=WF.heap[k]?)->w'.rangeAt gM 0 cm/\w'.cell? ⟨gQ,0,none⟩=some (.int .i64 vc)/\w'.cell? ⟨gQ,1,none⟩=some (.slice Aq nq cq)/\w'.rangeAt gS 0 csF):=by
   show ∀ w':World,_->_
   intro w' h
   have e1:Bk w' gM 28 cm:=(h gM (by omega)).trans Y.kM
   have e2:Bk w' gQ 31 [.int .i64 vc,.slice Aq nq cq]:=(h gQ (by omega)).trans Y.kQ
   have e3:Bk w' gS 37 csF:=(h gS (by omega)).trans kF
   exact⟨e1.rangeAt,e2.bx 0 _ rfl,e2.bx 1 _ rfl,e3.rangeAt⟩
  have ⟨c1,f1,c1',f1'⟩:=t1.r2
  have q1:∀ k,¬ (w.heap.size<=k/\k<w.heap.size+3)->W1.heap[k]?=WF.heap[k]?:=fun k h=>(hk0 k h).1
  have q2:∀ k,¬ (w.heap.size<=k/\k<w.heap.size+3)->W2.heap[k]?=WF.heap[k]?:=fun k h=>(hk0 k h).2.1
  have q3:∀ k,¬ (w.heap.size<=k/\k<w.heap.size+3)->W3.heap[k]?=WF.heap[k]?:=fun k h=>(hk0 k h).2.2
  have h2':W2=(W1.setCell ⟨w.heap.size+1,0,none⟩ (.int .i64 vc)).setCell ⟨w.heap.size+1,1,none⟩ (.slice Aq nq cq):=h2
  have D:DrawnSp g w (.returned (.tuple #[.agg cm.toArray,.agg #[.int .i64 vc,.slice Aq nq cq],.agg csF.toArray])) W3:=by
   have hs0:W0.heap.size=WF.heap.size:=by rw [hW0];rfl
   have hb3:Below w.heap.size WF W3:=by rw [hW0]at hbz;exact(Below.refl _ _).drew.trans hbz
   have O3:Out (w.heap.size+3) WF W3:=⟨by omega,fun k h1 _=>q3 k (by omega)⟩
   exact⟨m,cm,q,vc,Aq,nq,cq,sF,csF,rfl,fun V hV=>Y.HM V (O3.trans (hV.mono (by omega))),fun V hV=>Y.HQ V (O3.trans (hV.mono (by omega))),fun V hV=>HSF V ((O3.mono (by omega)).trans (hV.mono (by omega))),cuF.low hgw hb3,Chg.low Y.C hb3⟩
  have G0:=Lib.hid hW0
  have G1:=Lib.hid h1
  have G2:=Lib.hid h2'
  have G3:=Lib.hid h3
  rw [hW0]at TH
  clear hW0 h1 h2 h2' h3 hk hk0 t1 t2 hsz hbz R0 R1 R2 Y X HSF kF DF cuF
  refine hbg HSS.out (fun k _=>rfl) (fun hHeld=>?_)
  refine' wpAnyH_take (i:=0) (oi:=⟨some 51,_,_,_,_,_⟩) (v:=_) rfl (by kernel_rfl) (by kernel_rfl) (by kernel_rfl) (fun _ _ _ h=>h) (yieldsIf_load_mid (by rfl) _ _ rfl _ _ rfl _ _ (fun w h=>h.1) Tryz.underlying28 rfl (by rw [lenm];exact sizeModelT)) hHeld ?_
  simp only [putS]
  refine tka 1 52 hHeld ?_;simp only [putS]
  refine' wpAnyH_take (i:=2) (oi:=⟨some 53,_,_,_,_,_⟩) (v:=_) rfl (by kernel_rfl) (by kernel_rfl) (by kernel_rfl) (fun _ _ _ h=>h) (yieldsIf_load_mid (by rfl) _ _ rfl _ _ rfl _ _ (fun w h=>h.2.2.2) Tryz.underlying37 rfl (by rw [lenF];exact sizeSpaceT)) hHeld ?_
  simp only [putS]
  refine rd 3 none fun K hK=>?_
  clear hHeld
  rw [if_pos (by rfl)]
  refine wp_store_mid 28 _ _ rfl w.heap.size 0 cm.toArray rfl rfl TH (by rw [hcz];exact sizeModelT) ON ?_
  rw [setCells_kit,List.toList_toArray,<- G0.out,<- G1.out]
  refine hK.out _ _ (HSS.out _ q1) (fun hHeld=>?_)
  clear hK K
  try simp only [putS]
  refine rd 4 none fun K hK=>?_
  clear hHeld
  go_simp
  rw [<- G2.out]
  refine hK.out _ _ (HSS.out _ q2) (fun hHeld=>?_)
  clear hK K
  try simp only [putS]
  refine rd 5 none fun K hK=>?_
  clear hHeld
  rw [if_pos (by rfl)]
  refine wp_store_mid 37 _ _ rfl (w.heap.size+1+1) 0 csF.toArray rfl rfl TH2 (by rw [hcz5];exact sizeSpaceT) ON5 ?_
  rw [setCells_kit,List.toList_toArray,<- G3.out]
  refine hK.out _ _ (HSS.out _ q3) (fun hHeld=>?_)
  clear hK K
  try simp only [putS]
  refine wpAnyH_done (by kernel_rfl) ?_ _
  clear hHeld
  go_wp2
  refine bodyPost_ret (results_ccc Tryz.results45 (RC.mk' rfl u0.rangeAt Tryz.underlying28 rfl (by rw [lenm];exact sizeModelT)) (RC.mk' rfl u1.rangeAt Tryz.underlying31 rfl sizeQuT) (RC.mk' rfl u2.rangeAt Tryz.underlying37 rfl (by rw [lenF];exact sizeSpaceT))) rfl ?_
  exact D
end Go.Proofs.YtblbnbfghlkkfaaGreat
namespace Go.Proofs.YtblbnbfghlkkfaaGreat
open Go.RowKit
set_option linter.unusedVariables false
set_option linter.unusedSimpArgs false
attribute [local go_sem ↓] Go.wp_at_zero Go.wp_at_succ
theorem foldMin_bd {l:List Int}{B:Int}:∀ {c:Int},0<=c->c<=B->(∀ x∈l,0<=x/\x<=B)->0<=l.foldl min c/\l.foldl min c<=B:=by
 induction l with
 | nil=>exact fun h1 h2 _=>⟨h1,h2⟩
 | cons x xs ih =>
  intro c h1 h2 h
  have:=h x List.mem_cons_self
  exact ih (c:=min c x) (by omega) (by omega) (fun y hy=>h y (List.mem_cons_of_mem _ hy))
theorem foldMax_bd {l:List Int}{B:Int}:∀ {c:Int},0<=c->c<=B->(∀ x∈l,0<=x/\x<=B)->0<=l.foldl max c/\l.foldl max c<=B:=by
 induction l with
 | nil=>exact fun h1 h2 _=>⟨h1,h2⟩
 | cons x xs ih =>
  intro c h1 h2 h
  have:=h x List.mem_cons_self
  exact ih (c:=max c x) (by omega) (by omega) (fun y hy=>h y (List.mem_cons_of_mem _ hy))
theorem costRange_bd (s:SpaceD):0<=(costRange s).1/\(costRange s).1<=1000000000000/\0<=(costRange s).2/\(costRange s).2<=1000000000000:=by
 unfold costRange
 split
 ·rename_i h
  have hall:∀ x∈s.fCosts,0<=x/\x<=1000000000000:=fun x hx=>by
   obtain⟨k,hk⟩:=List.getElem?_of_mem hx
   have:=(validSpace_parts h).2.2.2.2.2.1 k x hk
   omega
  cases hl:s.fCosts with
  | nil=>simp [minOf,maxOf]
  | cons c cs =>
   have h0:s.fCosts[0]?=some c:=by rw [hl];rfl
   have hc:=hall c (mem_of_at h0)
   have a1:=foldMin_bd hc.1 hc.2 hall
   have a2:=foldMax_bd hc.1 hc.2 hall
   rw [<- minOf_eq h0]at a1
   rw [<- maxOf_eq h0]at a2
   rw [hl]at a1 a2
   exact⟨a1.1,a1.2,a2.1,a2.2⟩
 ·exact⟨Int.le_refl _,by decide,Int.le_refl _,by decide⟩
theorem results_tccct {P:Program}{fn:Func}{tmps:Array Value}{w:World}{s a1 a2 a3 s2:Nat}{t1 t2 t3:TypeId}{c1 c2 c3:List Value}{v v2:Value}(hr:fn.results=#[.tmp s,.cell a1 t1,.cell a2 t2,.cell a3 t3,.tmp s2]) (hs:tmps.getD s undef=v) (hs2:tmps.getD s2 undef=v2)
  (h1:RC P w tmps a1 t1 c1) (h2:RC P w tmps a2 t2 c2) (h3:RC P w tmps a3 t3 c3):(results fn tmps).run P w=.ok (.tuple #[v,.agg c1.toArray,.agg c2.toArray,.agg c3.toArray,v2]) w:=by
 obtain⟨b1,p1,k1⟩:=h1.ok
 obtain⟨b2,p2,k2⟩:=h2.ok
 obtain⟨b3,p3,k3⟩:=h3.ok
 have e1:tmps[s]?.getD undef=v:=by simpa using hs
 have e2:tmps[s2]?.getD undef=v2:=by simpa using hs2
 simp [results,hr,asAddr,e1,e2,p1,p2,p3,k1,k2,k3]
/-- what l31Both hands back: a cursor; data that read the same whatever becomes of it -/
def DrawnBo (w:World) (e:Ending) (W:World):Prop:=∃ (g:Nat) (m:ModelD) (cm:List Value) (q:QueryD) (vc:Int) (Aq:Option Addr) (nq cq:Nat) (s:SpaceD) (cs:List Value) (b:Int),
 e=.returned (.tuple #[.pointer (some ⟨g,0,none⟩),.agg cm.toArray,.agg #[.int .i64 vc,.slice Aq nq cq],.agg cs.toArray,.int .i64 b])/\w.heap.size<=g/\Cur W g/\Below w.heap.size w W/\I64 b /\
 StS (rModel NB) (fun k=>k<=g) W cm m/\StS (rQuery NB) (fun k=>k<=g) W [.int .i64 vc,.slice Aq nq cq] q/\StS (rSpace NB) (fun k=>k<=g) W cs s
/-- under way: the cursor and the results' boxes -/
structure Lb (w:World) (g:Nat) (W:World):Prop where
 cu:Cur W g
 be:Below w.heap.size w W
 r0:Bk W w.heap.size 28 [.int .i64 0,.int .i64 0,.int .i64 0,.int .i64 0,.int .i64 0,.slice none 0 0,.int .i64 0,.int .i64 0,.int .i64 0,.int .i64 0,.int .i64 0,.slice none 0 0,.int .i64 0,.int .i64 0,.int .i64 0,.int .i64 0,.int .i64 0,.slice none 0 0,.int .i64 0,.int .i64 0,.int .i64 0,.int .i64 0,.int .i64 0,.slice none 0 0,.int .i64 0,.int .i64 0,.int .i64 0,.int .i64 0,.int .i64 0,.slice none 0 0]
 r1:Bk W (w.heap.size+1) 31 [.int .i64 0,.slice none 0 0]
 r2:Bk W (w.heap.size+1+1) 37 [.slice none 0 0,.slice none 0 0,.slice none 0 0,.slice none 0 0,.slice none 0 0]
 hg:w.heap.size+3<=g
section
variable {w W W':World} {g:Nat}
theorem Lb.step (H:Lb w g W) (h:Chg [g] W W') (cu:Cur W' g):Lb w g W':=by
 obtain⟨_,be,r0,r1,r2,hg⟩:=H
 exact⟨cu,be.trans (h.toBelow be.size (by simp;omega)),(h.block _ r0.lt (by simp;omega)).trans r0,(h.block _ r1.lt (by simp;omega)).trans r1,(h.block _ r2.lt (by simp;omega)).trans r2,hg⟩
theorem Lb.low (H:Lb w g W) {B:Nat}(hb:Below B W W') (hB:g<B):Lb w g W':=by
 obtain⟨cu,be,r0,r1,r2,hg⟩:=H
 exact⟨cu.low hB hb,be.trans (hb.mono (by omega)),(hb.block _ (by omega)).trans r0,(hb.block _ (by omega)).trans r1,(hb.block _ (by omega)).trans r2,hg⟩
theorem Lb.fin (H:Lb w g W) (hs:W.heap.size<=W'.heap.size) (hk:∀ z,z<W.heap.size->¬ (w.heap.size<=z/\z<w.heap.size+3)->W'.heap[z]?=W.heap[z]?):Cur W' g:=by
 obtain⟨cu,be,r0,r1,r2,hg⟩:=H
 refine cu.boxed (fun z=>w.heap.size<=z/\z<w.heap.size+3) (fun z hz=>⟨by omega,?_⟩) hs hk
 have hz3:z=w.heap.size\/z=w.heap.size+1\/z=w.heap.size+1+1:=by omega
 rcases hz3 with rfl|rfl|rfl
 ·exact⟨_,_,r0,by simp⟩
 ·exact⟨_,_,r1,by simp⟩
 ·exact⟨_,_,r2,by simp⟩
end
set_option maxRecDepth 100000 in
set_option maxHeartbeats 12800000 in
theorem l31Both_c (A:Option Addr) (n cap:Nat) (l:List Int) (w:World) (hr:RS NB rByte w A n cap l) :
  Calls Tryz.prog 30 #[.slice A n cap] w (DrawnBo w):=by
 obtain⟨w1,hw1⟩:∃ W,W=w.alloc (.cells #[.int .i64 0,.int .i64 0,.int .i64 0,.int .i64 0,.int .i64 0,.slice none 0 0,.int .i64 0,.int .i64 0,.int .i64 0,.int .i64 0,.int .i64 0,.slice none 0 0,.int .i64 0,.int .i64 0,.int .i64 0,.int .i64 0,.int .i64 0,.slice none 0 0,.int .i64 0,.int .i64 0,.int .i64 0,.int .i64 0,.int .i64 0,.slice none 0 0,.int .i64 0,.int .i64 0,.int .i64 0,.int .i64 0,.int .i64 0,.slice none 0 0] 28):=⟨_,rfl⟩
 obtain⟨w2,hw2⟩:∃ W,W=w1.alloc (.cells #[.int .i64 0,.slice none 0 0] 31):=⟨_,rfl⟩
 obtain⟨w3,hw3⟩:∃ W,W=w2.alloc (.cells #[.slice none 0 0,.slice none 0 0,.slice none 0 0,.slice none 0 0,.slice none 0 0] 37):=⟨_,rfl⟩
 have hs1:w1.heap.size=w.heap.size+1:=by rw [hw1];simp
 have hs2:w2.heap.size=w.heap.size+1+1:=by rw [hw2];simp [hs1]
 have hs3:w3.heap.size=w.heap.size+3:=by rw [hw3];simp [hs2]
 have b1:Below w.heap.size w w1:=by rw [hw1];exact(Below.refl _ _).alloc (Nat.le_refl _) _
 have b2:Below w1.heap.size w1 w2:=by rw [hw2];exact(Below.refl _ _).alloc (Nat.le_refl _) _
 have b3:Below w2.heap.size w2 w3:=by rw [hw3];exact(Below.refl _ _).alloc (Nat.le_refl _) _
 have r0:Bk w3 w.heap.size 28 [.int .i64 0,.int .i64 0,.int .i64 0,.int .i64 0,.int .i64 0,.slice none 0 0,.int .i64 0,.int .i64 0,.int .i64 0,.int .i64 0,.int .i64 0,.slice none 0 0,.int .i64 0,.int .i64 0,.int .i64 0,.int .i64 0,.int .i64 0,.slice none 0 0,.int .i64 0,.int .i64 0,.int .i64 0,.int .i64 0,.int .i64 0,.slice none 0 0,.int .i64 0,.int .i64 0,.int .i64 0,.int .i64 0,.int .i64 0,.slice none 0 0]:=Bk.below (w:=w2) (Bk.below (w:=w1) (by rw [hw1];exact Bk.new w _ _) b2) b3
 have r1:Bk w3 (w.heap.size+1) 31 [.int .i64 0,.slice none 0 0]:=Bk.below (w:=w2) (by rw [hw2,<- hs1];exact Bk.new w1 _ _) b3
 have r2:Bk w3 (w.heap.size+1+1) 37 [.slice none 0 0,.slice none 0 0,.slice none 0 0,.slice none 0 0,.slice none 0 0]:=by rw [hw3,<- hs2];exact Bk.new w2 _ _
 have bb:=(b1.trans (b2.mono (by omega))).trans (b3.mono (by omega))
 have hr3:=hr.below rByte_ok bb
 have HW:Hid (w1=w.alloc (.cells #[.int .i64 0,.int .i64 0,.int .i64 0,.int .i64 0,.int .i64 0,.slice none 0 0,.int .i64 0,.int .i64 0,.int .i64 0,.int .i64 0,.int .i64 0,.slice none 0 0,.int .i64 0,.int .i64 0,.int .i64 0,.int .i64 0,.int .i64 0,.slice none 0 0,.int .i64 0,.int .i64 0,.int .i64 0,.int .i64 0,.int .i64 0,.slice none 0 0,.int .i64 0,.int .i64 0,.int .i64 0,.int .i64 0,.int .i64 0,.slice none 0 0] 28)/\w2=w1.alloc (.cells #[.int .i64 0,.slice none 0 0] 31)/\w3=w2.alloc (.cells #[.slice none 0 0,.slice none 0 0,.slice none 0 0,.slice none 0 0,.slice none 0 0] 37)):=⟨hw1,hw2,hw3⟩
 have HS3:=Lib.hid hs3
 clear hw1 hw2 hw3 hs1 hs2 hs3 b1 b2 b3 hr
 go_enter Tryz.func30,Tryz.ntmps30
 go_upto_region 1 with fail
 obtain⟨hw1,hw2,hw3⟩:=HW.out
 rw [<- hw1,<- hw2,<- hw3]
 clear hw1 hw2 hw3 HW
 go_wp2_with fail
 refine(l1New_c _ _ _ _ _ hr3).mono ?_
 rintro e w4 ⟨g,rfl,hg,cu4,hb4⟩
 have H4:Lb w g w4:=⟨cu4,bb.trans (hb4.mono bb.size),r0.below hb4,r1.below hb4,r2.below hb4,by have:=HS3.out;omega⟩
 clear hr3 hg cu4 hb4 r0 r1 r2 bb HS3
 go_wp2_with fail
 refine(l30Space_c g w4 H4.cu).mono ?_
 rintro e w5 ⟨m,cm,q,vc,Aq,nq,cq,s,cs,rfl,SM,SQ,SS,cu5,ch5⟩
 have H5:=H4.step ch5 cu5
 have h45:=ch5.size
 have hg4:=H4.cu.lt
 obtain⟨AL,nL,cL,AH,nH,cH,AC,nC,cC,AK,nK,cK,AP,nP,cP,rfl,_⟩:=rSpace_rep.1 SS.rep
 obtain⟨gM,hgM⟩:∃ z,z=w5.heap.size:=⟨_,rfl⟩
 obtain⟨w6,hw6⟩:∃ W,W=w5.alloc (.cells #[.int .i64 0,.int .i64 0,.int .i64 0,.int .i64 0,.int .i64 0,.slice none 0 0,.int .i64 0,.int .i64 0,.int .i64 0,.int .i64 0,.int .i64 0,.slice none 0 0,.int .i64 0,.int .i64 0,.int .i64 0,.int .i64 0,.int .i64 0,.slice none 0 0,.int .i64 0,.int .i64 0,.int .i64 0,.int .i64 0,.int .i64 0,.slice none 0 0,.int .i64 0,.int .i64 0,.int .i64 0,.int .i64 0,.int .i64 0,.slice none 0 0] 28):=⟨_,rfl⟩
 obtain⟨w7,hw7⟩:∃ W,W=w6.alloc (.cells #[.int .i64 0,.slice none 0 0] 31):=⟨_,rfl⟩
 obtain⟨w8,hw8⟩:∃ W,W=w7.alloc (.cells #[.slice none 0 0,.slice none 0 0,.slice none 0 0,.slice none 0 0,.slice none 0 0] 37):=⟨_,rfl⟩
 have hs6:w6.heap.size=gM+1:=by rw [hw6,hgM];simp
 have hs7:w7.heap.size=gM+1+1:=by rw [hw7];simp [hs6]
 have hs8:w8.heap.size=gM+3:=by rw [hw8];simp [hs7]
 have b6:Below w5.heap.size w5 w6:=by rw [hw6];exact(Below.refl _ _).alloc (Nat.le_refl _) _
 have b7:Below w6.heap.size w6 w7:=by rw [hw7];exact(Below.refl _ _).alloc (Nat.le_refl _) _
 have b8:Below w7.heap.size w7 w8:=by rw [hw8];exact(Below.refl _ _).alloc (Nat.le_refl _) _
 have kM0:Bk w8 gM 28 [.int .i64 0,.int .i64 0,.int .i64 0,.int .i64 0,.int .i64 0,.slice none 0 0,.int .i64 0,.int .i64 0,.int .i64 0,.int .i64 0,.int .i64 0,.slice none 0 0,.int .i64 0,.int .i64 0,.int .i64 0,.int .i64 0,.int .i64 0,.slice none 0 0,.int .i64 0,.int .i64 0,.int .i64 0,.int .i64 0,.int .i64 0,.slice none 0 0,.int .i64 0,.int .i64 0,.int .i64 0,.int .i64 0,.int .i64 0,.slice none 0 0]:=Bk.below (w:=w7) (Bk.below (w:=w6) (by rw [hw6,hgM];exact Bk.new w5 _ _) b7) b8
 have kQ0:Bk w8 (gM+1) 31 [.int .i64 0,.slice none 0 0]:=Bk.below (w:=w7) (by rw [hw7,<- hs6];exact Bk.new w6 _ _) b8
 have kS0:Bk w8 (gM+1+1) 37 [.slice none 0 0,.slice none 0 0,.slice none 0 0,.slice none 0 0,.slice none 0 0]:=by rw [hw8,<- hs7];exact Bk.new w7 _ _
 have b58:Below w5.heap.size w5 w8:=(b6.trans (b7.mono (by omega))).trans (b8.mono (by omega))
 have lenm:=(rModel_ok NB).len SM.rep
 have ON:=one_rep (rModel_ok NB) SM.rep
 have hcz:cm.toArray.size=30:=List.size_toArray.trans lenm
 have TH:w8.there gM 0 cm.toArray.size:=by rw [hcz];exact kM0.there
 obtain⟨W9,hW9⟩:∃ W,W=setCells w8 gM 0 cm:=⟨_,rfl⟩
 obtain⟨W10,hW10⟩:∃ W,W=(W9.setCell ⟨gM+1,0,none⟩ (.int .i64 vc)).setCell ⟨gM+1,1,none⟩ (.slice Aq nq cq):=⟨_,rfl⟩
 obtain⟨W11,hW11⟩:∃ W,W=((((W10.setCell ⟨gM+1+1,0,none⟩ (.slice AL nL cL)).setCell ⟨gM+1+1,1,none⟩ (.slice AH nH cH)).setCell ⟨gM+1+1,2,none⟩ (.slice AC nC cC)).setCell ⟨gM+1+1,3,none⟩ (.slice AK nK cK)).setCell ⟨gM+1+1,4,none⟩ (.slice AP nP cP):=⟨_,rfl⟩
 have b9:Below gM w5 W9:=by rw [hW9];exact Below.setCells (hgM▸b58) (Nat.le_refl _) _ _
 have b10:Below gM w5 W10:=by rw [hW10];exact bls2 b9 (by omega) _ _
 have b11:Below gM w5 W11:=by rw [hW11];exact bls5 b10 (by omega) _ _ _ _ _
 have kM9:Bk W9 gM 28 cm:=by rw [hW9];exact kM0.fill (by rw [lenm];rfl)
 have kQ9:Bk W9 (gM+1) 31 [.int .i64 0,.slice none 0 0]:=by rw [hW9];exact kQ0.otherC (by omega) 0 cm
 have kS9:Bk W9 (gM+1+1) 37 [.slice none 0 0,.slice none 0 0,.slice none 0 0,.slice none 0 0,.slice none 0 0]:=by rw [hW9];exact kS0.otherC (by omega) 0 cm
 have n10:∀ z,z≠gM+1->W10.heap[z]?=W9.heap[z]?:=fun z hz=>by rw [hW10];exact(heap_setCell_other _ ⟨gM+1,1,none⟩ z _ (fun e=>hz e)).trans (heap_setCell_other _ ⟨gM+1,0,none⟩ z _ (fun e=>hz e))
 have kQ10:Bk W10 (gM+1) 31 [.int .i64 vc,.slice Aq nq cq]:=by rw [hW10];exact(kQ9.set 0 _).set 1 _
 have kS10:Bk W10 (gM+1+1) 37 [.slice none 0 0,.slice none 0 0,.slice none 0 0,.slice none 0 0,.slice none 0 0]:=(n10 _ (by omega)).trans kS9
 have n11:∀ z,z≠gM+1+1->W11.heap[z]?=W10.heap[z]?:=fun z hz=>by rw [hW11];exact set5_ne hz _ _ _ _ _
 have kM:Bk W11 gM 28 cm:=(n11 _ (by omega)).trans ((n10 _ (by omega)).trans kM9)
 have kQ:Bk W11 (gM+1) 31 [.int .i64 vc,.slice Aq nq cq]:=(n11 _ (by omega)).trans kQ10
 have kS:Bk W11 (gM+1+1) 37 [.slice AL nL cL,.slice AH nH cH,.slice AC nC cC,.slice AK nK cK,.slice AP nP cP]:=by rw [hW11];exact kS10.set5 _ _ _ _ _
 have hgg:g<gM:=by rw [hgM];exact cu5.lt
 have H11:=H5.low b11 hgg
 have hO:Out w4.heap.size w5 W11:=⟨by have:=b11.size;omega,fun k _ hk=>b11.block k (by omega)⟩
 have HM:StS (rModel NB) (fun k=>k<=g) W11 cm m:=SM.sts b11.size (fun k h1 h2=>⟨by omega,b11.block k (by omega)⟩)
 have HQ:StS (rQuery NB) (fun k=>k<=g) W11 [.int .i64 vc,.slice Aq nq cq] q:=SQ.sts b11.size (fun k h1 h2=>⟨by omega,b11.block k (by omega)⟩)
 have HSp:StS (rSpace NB) (fun k=>k<=g) W11 [.slice AL nL cL,.slice AH nH cH,.slice AC nC cC,.slice AK nK cK,.slice AP nP cP] s:=SS.sts b11.size (fun k h1 h2=>⟨by omega,b11.block k (by omega)⟩)
 have ⟨q0,g0,q1,g1⟩:=kQ9.r2
 have ⟨p0,f0,p1,f1,p2,f2,p3,f3,p4,f4⟩:=kS9.r5
 have HWK:Hid (w8.setCells gM 0 cm.toArray.toList=W9):=by show _=_;rw [setCells_kit,hW9]
 have HGM:Hid (gM=w5.heap.size/\w6.heap.size=gM+1/\w7.heap.size=gM+1+1):=⟨hgM,hs6,hs7⟩
 have HW:Hid (w6=w5.alloc (.cells #[.int .i64 0,.int .i64 0,.int .i64 0,.int .i64 0,.int .i64 0,.slice none 0 0,.int .i64 0,.int .i64 0,.int .i64 0,.int .i64 0,.int .i64 0,.slice none 0 0,.int .i64 0,.int .i64 0,.int .i64 0,.int .i64 0,.int .i64 0,.slice none 0 0,.int .i64 0,.int .i64 0,.int .i64 0,.int .i64 0,.int .i64 0,.slice none 0 0,.int .i64 0,.int .i64 0,.int .i64 0,.int .i64 0,.int .i64 0,.slice none 0 0] 28)/\w7=w6.alloc (.cells #[.int .i64 0,.slice none 0 0] 31)/\w8=w7.alloc (.cells #[.slice none 0 0,.slice none 0 0,.slice none 0 0,.slice none 0 0,.slice none 0 0] 37)):=⟨hw6,hw7,hw8⟩
 have HW10:=Lib.hid hW10
 have HW11:=Lib.hid hW11
 clear hgM hs6 hs7 hs8 hw6 hw7 hw8 hW9 hW10 hW11 b6 b7 b8 b58 b9 b10 b11 kM0 kQ0 kS0 kM9 kQ9 kS9 kQ10 kS10 n10 n11 hO SM SQ SS ch5 cu5 H5 H4 h45 hg4
 go_upto_region 3 with (refine wpList_store_mid rfl 28 _ _ rfl gM 0 cm.toArray (by rw [HGM.out.1];rfl) rfl (by rw [<- HW.out.1,<- HW.out.2.1,<- HW.out.2.2];exact TH) (by rw [hcz];exact sizeModelT) ON ?_;rw [<- HW.out.1,<- HW.out.2.1,<- HW.out.2.2,HWK.out,<- HGM.out.1])
 rw [<- HW10.out,<- HW11.out]
 clear HW10 HW11 HWK HGM HW TH ON hcz q0 g0 q1 g1 p0 f0 p1 f1 p2 f2 p3 f3 p4 f4
 have hMx:=kM.lt
 have ⟨s0,y0,s1,y1,s2,y2,s3,y3,s4,y4⟩:=kS.r5
 go_wp2_with fail
 refine(sCostRange_c _ s W11 HSp.rep).mono ?_
 rintro e W12 ⟨rfl,hb12⟩
 have hcb:=costRange_bd s
 obtain⟨lo,hlo⟩:∃ v,(costRange s).1=v:=⟨_,rfl⟩
 obtain⟨hi,hhi⟩:∃ v,(costRange s).2=v:=⟨_,rfl⟩
 rw [hlo,hhi]at hcb ⊢
 have H12:=H11.low hb12 H11.cu.lt
 replace kM:=kM.below hb12
 replace kQ:=kQ.below hb12
 replace kS:=kS.below hb12
 replace HM:=HM.step (OutS.ofBelow hb12)
 replace HQ:=HQ.step (OutS.ofBelow hb12)
 replace HSp:=HSp.step (OutS.ofBelow hb12)
 clear hlo hhi hb12 H11 s0 y0 s1 y1 s2 y2 s3 y3 s4 y4
 obtain⟨N,hN⟩:∃ N:Int,(if (1:Int)<hi - lo+2 then hi - lo+2 else 1)=N:=⟨_,rfl⟩
 have hN1:1<=N/\N<=1000000000002:=by rw [<- hN];split<;>omega
 have e1:IntKind.i64.wrap (hi - lo)=hi - lo:=IntWalk.i64_in _ (by omega)
 have e2:IntKind.i64.wrap (hi - lo+2)=hi - lo+2:=IntWalk.i64_in _ (by omega)
 go_wp2_with fail
 refine(l1Below_c g N W12 (by omega) H12.cu).mono ?_
 rintro e W13 ⟨x,rfl,⟨x0,_,x1⟩,cu13,ch13⟩
 have x2:=x1 (by omega)
 have e3:IntKind.i64.wrap (lo+x)=lo+x:=IntWalk.i64_in _ (by omega)
 have H13:=H12.step ch13 cu13
 replace kM:Bk W13 gM 28 cm:=(ch13.block _ kM.lt (by simp;omega)).trans kM
 replace kQ:Bk W13 (gM+1) 31 [.int .i64 vc,.slice Aq nq cq]:=(ch13.block _ kQ.lt (by simp;omega)).trans kQ
 replace kS:Bk W13 (gM+1+1) 37 [.slice AL nL cL,.slice AH nH cH,.slice AC nC cC,.slice AK nK cK,.slice AP nP cP]:=(ch13.block _ kS.lt (by simp;omega)).trans kS
 replace HM:=HM.step (OutS.chg ch13 (by simp))
 replace HQ:=HQ.step (OutS.chg ch13 (by simp))
 replace HSp:=HSp.step (OutS.chg ch13 (by simp))
 clear x1 ch13 cu13 H12
 go_wp2_with fail
 refine(l1Once_c g 10 W13 (by omega) H13.cu).mono ?_
 rintro e W14 ⟨b,rfl,cu14,ch14⟩
 have H14:=H13.step ch14 cu14
 replace kM:Bk W14 gM 28 cm:=(ch14.block _ kM.lt (by simp;omega)).trans kM
 replace kQ:Bk W14 (gM+1) 31 [.int .i64 vc,.slice Aq nq cq]:=(ch14.block _ kQ.lt (by simp;omega)).trans kQ
 replace kS:Bk W14 (gM+1+1) 37 [.slice AL nL cL,.slice AH nH cH,.slice AC nC cC,.slice AK nK cK,.slice AP nP cP]:=(ch14.block _ kS.lt (by simp;omega)).trans kS
 replace HM:=HM.step (OutS.chg ch14 (by simp))
 replace HQ:=HQ.step (OutS.chg ch14 (by simp))
 replace HSp:=HSp.step (OutS.chg ch14 (by simp))
 clear ch14 cu14 H13 hN hN1 e1 e2
 cases b
 focus
  go_upto_region 7 with fail
  obtain⟨WF,hWF⟩:∃ W,W=W14:=⟨_,rfl⟩
  obtain⟨bv,hbv⟩:∃ v,v=lo+x:=⟨_,rfl⟩
  have hbI:I64 bv:=by unfold I64;omega
  rw [<- hWF]at kM kQ kS HM HQ HSp H14 ⊢
  rw [<- hbv]
  have HF:=H14
  clear hWF hbv H14 e3
  refine Hid.out (?_:Hid _)
 rotate_left
 focus
  obtain⟨W15,hW15⟩:∃ W,W=W14.alloc (.cells #[.int .i64 (-1),.int .i64 0,.int .i64 9223372036854775807] 3):=⟨_,rfl⟩
  have b15:Below W14.heap.size W14 W15:=by rw [hW15];exact(Below.refl _ _).alloc (Nat.le_refl _) _
  have rL:RS NB rInt W15 (some ⟨W14.heap.size,0,none⟩) 3 3 [-1,0,9223372036854775807]:=by rw [hW15];exact RS.lit W14 [-1,0,9223372036854775807] _ (by simp) (by simp [I64])
  have H15:=H14.low b15 H14.cu.lt
  have hgl:=H14.cu.lt
  have hne:∀ k∈blk (some (⟨W14.heap.size,0,none⟩:Addr)),k≠g:=fun k hk=>by simp [blk]at hk;omega
  go_wp2_with fail
  rw [<- hW15]
  clear hW15
  refine(l1PickInt_c g _ 3 3 [-1,0,9223372036854775807] W15 rL hne (by omega) H15.cu).mono ?_
  rintro e W16 ⟨v,rfl,hv,cu16,ch16⟩
  have H16:=H15.step ch16 cu16
  have hbI0:I64 v:=by unfold I64;simp at hv;omega
  replace kM:=kM.below b15
  replace kQ:=kQ.below b15
  replace kS:=kS.below b15
  replace HM:=(HM.step (OutS.ofBelow b15)).step (OutS.chg ch16 (by simp))
  replace HQ:=(HQ.step (OutS.ofBelow b15)).step (OutS.chg ch16 (by simp))
  replace HSp:=(HSp.step (OutS.ofBelow b15)).step (OutS.chg ch16 (by simp))
  replace kM:Bk W16 gM 28 cm:=(ch16.block _ kM.lt (by simp;omega)).trans kM
  replace kQ:Bk W16 (gM+1) 31 [.int .i64 vc,.slice Aq nq cq]:=(ch16.block _ kQ.lt (by simp;omega)).trans kQ
  replace kS:Bk W16 (gM+1+1) 37 [.slice AL nL cL,.slice AH nH cH,.slice AC nC cC,.slice AK nK cK,.slice AP nP cP]:=(ch16.block _ kS.lt (by simp;omega)).trans kS
  go_upto_region 7 with fail
  obtain⟨WF,hWF⟩:∃ W,W=W16:=⟨_,rfl⟩
  obtain⟨bv,hbv⟩:∃ z,z=v:=⟨_,rfl⟩
  have hbI:I64 bv:=by rw [hbv];exact hbI0
  rw [<- hWF]at kM kQ kS HM HQ HSp H16 ⊢
  rw [<- hbv]
  have HF:=H16
  clear hWF hbv H16 e3 hbI0 ch16 cu16 rL hne H15 H14 b15 hv hgl
  refine Hid.out (?_:Hid _)
 all_goals
  refine Lib.hid ?_
  obtain⟨csF,hF⟩:∃ c:List Value,c=[.slice AL nL cL,.slice AH nH cH,.slice AC nC cC,.slice AK nK cK,.slice AP nP cP]:=⟨_,rfl⟩
  have lenF:csF.length=5:=by rw [hF];rfl
  rw [<- hF]at kS HSp
  clear hF
  have hgm:w.heap.size+3<=gM:=by have:=HF.hg;omega
  have ON:=one_rep (rModel_ok NB) HM.rep
  have ON5:=one_rep (rSpace_ok NB) HSp.rep
  have hcz:cm.toArray.size=30:=List.size_toArray.trans lenm
  have hcz5:csF.toArray.size=5:=List.size_toArray.trans lenF
  obtain⟨W0,hW0⟩:∃ W,W=WF.drew:=⟨_,rfl⟩
  have R0:Bk W0 w.heap.size 28 [.int .i64 0,.int .i64 0,.int .i64 0,.int .i64 0,.int .i64 0,.slice none 0 0,.int .i64 0,.int .i64 0,.int .i64 0,.int .i64 0,.int .i64 0,.slice none 0 0,.int .i64 0,.int .i64 0,.int .i64 0,.int .i64 0,.int .i64 0,.slice none 0 0,.int .i64 0,.int .i64 0,.int .i64 0,.int .i64 0,.int .i64 0,.slice none 0 0,.int .i64 0,.int .i64 0,.int .i64 0,.int .i64 0,.int .i64 0,.slice none 0 0]:=by rw [hW0];exact HF.r0.below (Below.refl _ _).drew
  have R1:Bk W0 (w.heap.size+1) 31 [.int .i64 0,.slice none 0 0]:=by rw [hW0];exact HF.r1.below (Below.refl _ _).drew
  have R2:Bk W0 (w.heap.size+1+1) 37 [.slice none 0 0,.slice none 0 0,.slice none 0 0,.slice none 0 0,.slice none 0 0]:=by rw [hW0];exact HF.r2.below (Below.refl _ _).drew
  obtain⟨W1,h1⟩:∃ W,W=setCells W0 w.heap.size 0 cm:=⟨_,rfl⟩
  obtain⟨W2,h2⟩:∃ W,W=set2 W1 (w.heap.size+1) (.int .i64 vc) (.slice Aq nq cq):=⟨_,rfl⟩
  obtain⟨W3,h3⟩:∃ W,W=setCells W2 (w.heap.size+1+1) 0 csF:=⟨_,rfl⟩
  obtain⟨⟨t1,t2⟩,⟨u0,u1,u2⟩,hk,hsz,hbz⟩:=stores3 R0 R1 R2 lenm lenF (.int .i64 vc) (.slice Aq nq cq) h1 h2 h3
  have hk0:∀ k,¬ (w.heap.size<=k/\k<w.heap.size+3)->W1.heap[k]?=WF.heap[k]?/\W2.heap[k]?=WF.heap[k]?/\W3.heap[k]?=WF.heap[k]?:=fun k h=>by have:=hk k h;rw [hW0]at this;exact this
  have TH:W0.there w.heap.size 0 cm.toArray.size:=by rw [hcz];exact R0.there
  have TH2:W2.there (w.heap.size+1+1) 0 csF.toArray.size:=by rw [hcz5];exact t2.there
  have HSS:Hid (∀ w':World,(∀ k,¬ (w.heap.size<=k/\k<w.heap.size+3)->w'.heap[k]?=WF.heap[k]?)->w'.rangeAt gM 0 cm/\w'.cell? ⟨gM+1,0,none⟩=some (.int .i64 vc)/\w'.cell? ⟨gM+1,1,none⟩=some (.slice Aq nq cq)/\w'.rangeAt (gM+1+1) 0 csF):=by
   show ∀ w':World,_->_
   intro w' h
   have e1:Bk w' gM 28 cm:=(h gM (by omega)).trans kM
   have e2:Bk w' (gM+1) 31 [.int .i64 vc,.slice Aq nq cq]:=(h (gM+1) (by omega)).trans kQ
   have e3:Bk w' (gM+1+1) 37 csF:=(h (gM+1+1) (by omega)).trans kS
   exact⟨e1.rangeAt,e2.bx 0 _ rfl,e2.bx 1 _ rfl,e3.rangeAt⟩
  have ⟨c1,f1,c1',f1'⟩:=t1.r2
  have q1:∀ k,¬ (w.heap.size<=k/\k<w.heap.size+3)->W1.heap[k]?=WF.heap[k]?:=fun k h=>(hk0 k h).1
  have q2:∀ k,¬ (w.heap.size<=k/\k<w.heap.size+3)->W2.heap[k]?=WF.heap[k]?:=fun k h=>(hk0 k h).2.1
  have q3:∀ k,¬ (w.heap.size<=k/\k<w.heap.size+3)->W3.heap[k]?=WF.heap[k]?:=fun k h=>(hk0 k h).2.2
  have h2':W2=(W1.setCell ⟨w.heap.size+1,0,none⟩ (.int .i64 vc)).setCell ⟨w.heap.size+1,1,none⟩ (.slice Aq nq cq):=h2
  have D:DrawnBo w (.returned (.tuple #[.pointer (some ⟨g,0,none⟩),.agg cm.toArray,.agg #[.int .i64 vc,.slice Aq nq cq],.agg csF.toArray,.int .i64 bv])) W3:=by
   have hs0:W0.heap.size=WF.heap.size:=by rw [hW0];rfl
   have hg3:=HF.hg
   have hb3:Below w.heap.size WF W3:=by rw [hW0]at hbz;exact(Below.refl _ _).drew.trans hbz
   have X:OutS (fun k=>k<=g) WF W3:=⟨by omega,fun k hn _=>q3 k (by omega)⟩
   exact⟨g,m,cm,q,vc,Aq,nq,cq,s,csF,bv,rfl,by omega,HF.fin (by omega) (fun z _ hz=>q3 z hz),HF.be.trans hb3,hbI,HM.step X,HQ.step X,HSp.step X⟩
  have G0:=Lib.hid hW0
  have G1:=Lib.hid h1
  have G2:=Lib.hid h2'
  have G3:=Lib.hid h3
  rw [hW0]at TH
  clear hW0 h1 h2 h2' h3 hk hk0 t1 t2 hsz hbz R0 R1 R2 HF HM HQ HSp kM kQ kS
  refine hbg HSS.out (fun k _=>rfl) (fun hHeld=>?_)
  refine tka 0 41 hHeld ?_;simp only [putS]
  refine' wpAnyH_take (i:=1) (oi:=⟨some 42,_,_,_,_,_⟩) (v:=_) rfl (by kernel_rfl) (by kernel_rfl) (by kernel_rfl) (fun _ _ _ h=>h) (yieldsIf_load_mid (by rfl) _ _ rfl _ _ rfl _ _ (fun w h=>h.1) Tryz.underlying28 rfl (by rw [lenm];exact sizeModelT)) hHeld ?_
  simp only [putS]
  refine tka 2 43 hHeld ?_;simp only [putS]
  refine' wpAnyH_take (i:=3) (oi:=⟨some 44,_,_,_,_,_⟩) (v:=_) rfl (by kernel_rfl) (by kernel_rfl) (by kernel_rfl) (fun _ _ _ h=>h) (yieldsIf_load_mid (by rfl) _ _ rfl _ _ rfl _ _ (fun w h=>h.2.2.2) Tryz.underlying37 rfl (by rw [lenF];exact sizeSpaceT)) hHeld ?_
  simp only [putS]
  refine tka 4 45 hHeld ?_;simp only [putS]
  have q0:∀ k,¬ (w.heap.size<=k/\k<w.heap.size+3)->WF.drew.heap[k]?=WF.heap[k]?:=fun k _=>rfl
  refine rd 5 (some 2) fun K hK=>?_
  clear hHeld
  go_simp
  refine hK.out _ _ (HSS.out _ q0) (fun hHeld=>?_)
  clear hK K
  try simp only [putS]
  refine rd 6 none fun K hK=>?_
  clear hHeld
  rw [if_pos (by rfl)]
  refine wp_store_mid 28 _ _ rfl w.heap.size 0 cm.toArray rfl rfl TH (by rw [hcz];exact sizeModelT) ON ?_
  rw [setCells_kit,List.toList_toArray,<- G0.out,<- G1.out]
  refine hK.out _ _ (HSS.out _ q1) (fun hHeld=>?_)
  clear hK K
  try simp only [putS]
  refine rd 7 none fun K hK=>?_
  clear hHeld
  go_simp
  rw [<- G2.out]
  refine hK.out _ _ (HSS.out _ q2) (fun hHeld=>?_)
  clear hK K
  try simp only [putS]
  refine rd 8 none fun K hK=>?_
  clear hHeld
  rw [if_pos (by rfl)]
  refine wp_store_mid 37 _ _ rfl (w.heap.size+1+1) 0 csF.toArray rfl rfl TH2 (by rw [hcz5];exact sizeSpaceT) ON5 ?_
  rw [setCells_kit,List.toList_toArray,<- G3.out]
  refine hK.out _ _ (HSS.out _ q3) (fun hHeld=>?_)
  clear hK K
  try simp only [putS]
  refine tka 9 6 hHeld ?_;simp only [putS]
  refine wpAnyH_done (by kernel_rfl) ?_ _
  clear hHeld
  go_wp2
  refine bodyPost_ret (results_tccct Tryz.results30 rfl rfl (RC.mk' rfl u0.rangeAt Tryz.underlying28 rfl (by rw [lenm];exact sizeModelT)) (RC.mk' rfl u1.rangeAt Tryz.underlying31 rfl sizeQuT) (RC.mk' rfl u2.rangeAt Tryz.underlying37 rfl (by rw [lenF];exact sizeSpaceT))) rfl ?_
  exact D
end Go.Proofs.YtblbnbfghlkkfaaGreat
namespace Go.Proofs.YtblbnbfghlkkfaaGreat
open Go.RowKit
set_option linter.unusedVariables false
set_option linter.unusedSimpArgs false
attribute [local go_sem ↓] Go.wp_at_zero Go.wp_at_succ
theorem results_tccctt {P:Program}{fn:Func}{tmps:Array Value}{w:World}{s a1 a2 a3 s2 s3:Nat}{t1 t2 t3:TypeId}{c1 c2 c3:List Value}{v v2 v3:Value}(hr:fn.results=#[.tmp s,.cell a1 t1,.cell a2 t2,.cell a3 t3,.tmp s2,.tmp s3]) (hs:tmps.getD s undef=v) (hs2:tmps.getD s2 undef=v2) (hs3:tmps.getD s3 undef=v3)
  (h1:RC P w tmps a1 t1 c1) (h2:RC P w tmps a2 t2 c2) (h3:RC P w tmps a3 t3 c3):(results fn tmps).run P w=.ok (.tuple #[v,.agg c1.toArray,.agg c2.toArray,.agg c3.toArray,v2,v3]) w:=by
 obtain⟨b1,p1,k1⟩:=h1.ok
 obtain⟨b2,p2,k2⟩:=h2.ok
 obtain⟨b3,p3,k3⟩:=h3.ok
 have e1:tmps[s]?.getD undef=v:=by simpa using hs
 have e2:tmps[s2]?.getD undef=v2:=by simpa using hs2
 have e3:tmps[s3]?.getD undef=v3:=by simpa using hs3
 simp [results,hr,asAddr,e1,e2,e3,p1,p2,p3,k1,k2,k3]
theorem results_ccctt {P:Program}{fn:Func}{tmps:Array Value}{w:World}{a1 a2 a3 s2 s3:Nat}{t1 t2 t3:TypeId}{c1 c2 c3:List Value}{v2 v3:Value}(hr:fn.results=#[.cell a1 t1,.cell a2 t2,.cell a3 t3,.tmp s2,.tmp s3]) (hs2:tmps.getD s2 undef=v2) (hs3:tmps.getD s3 undef=v3)
  (h1:RC P w tmps a1 t1 c1) (h2:RC P w tmps a2 t2 c2) (h3:RC P w tmps a3 t3 c3):(results fn tmps).run P w=.ok (.tuple #[.agg c1.toArray,.agg c2.toArray,.agg c3.toArray,v2,v3]) w:=by
 obtain⟨b1,p1,k1⟩:=h1.ok
 obtain⟨b2,p2,k2⟩:=h2.ok
 obtain⟨b3,p3,k3⟩:=h3.ok
 have e2:tmps[s2]?.getD undef=v2:=by simpa using hs2
 have e3:tmps[s3]?.getD undef=v3:=by simpa using hs3
 simp [results,hr,asAddr,e2,e3,p1,p2,p3,k1,k2,k3]
/-- what is drawn: a model, a query, a space, a row of numbers, a budget -/
def DrawnD (w W:World) (m:ModelD) (cm:List Value) (q:QueryD) (vc:Int) (Aq:Option Addr) (nq cq:Nat) (s:SpaceD) (cs:List Value) (Af:Option Addr) (nf cf:Nat) (fr:List Int) (b:Int):Prop :=
 (rModel NB).rep W cm m/\(rQuery NB).rep W [.int .i64 vc,.slice Aq nq cq] q/\(rSpace NB).rep W cs s/\RS NB rInt W Af nf cf fr/\I64 b/\Below w.heap.size w W
/-- the same beside a cursor: it reads the same whatever becomes of what lies not above the cursor -/
def DrawnG (g:Nat) (w W:World) (m:ModelD) (cm:List Value) (q:QueryD) (vc:Int) (Aq:Option Addr) (nq cq:Nat) (s:SpaceD) (cs:List Value) (Af:Option Addr) (nf cf:Nat) (fr:List Int) (b:Int):Prop :=
 StS (rModel NB) (fun k=>k<=g) W cm m/\StS (rQuery NB) (fun k=>k<=g) W [.int .i64 vc,.slice Aq nq cq] q/\StS (rSpace NB) (fun k=>k<=g) W cs s/\(∃ B,g<B/\MS B NB 3 rInt W Af nf cf fr)/\I64 b/\Below w.heap.size w W/\w.heap.size<=g
theorem front_len (s:SpaceD) (b:Int):(frontier s b).length<=400:=by
 unfold frontier
 split
 ·rename_i h
  have h2:=validSpace_parts h
  have:=frontTo_len s b s.fCosts.length
  omega
 ·simp
set_option maxRecDepth 100000 in
set_option maxHeartbeats 12800000 in
theorem l32All_c (A:Option Addr) (n cap:Nat) (l:List Int) (w:World) (hr:RS NB rByte w A n cap l) :
  Calls Tryz.prog 14 #[.slice A n cap] w fun e W=>∃ g:Nat,∃ (m:ModelD) (cm:List Value) (q:QueryD) (vc:Int) (Aq:Option Addr) (nq cq:Nat) (s:SpaceD) (cs:List Value) (Af:Option Addr) (nf cf:Nat) (fr:List Int) (b:Int),e=.returned (.tuple #[.pointer (some ⟨g,0,none⟩),.agg cm.toArray,.agg #[.int .i64 vc,.slice Aq nq cq],.agg cs.toArray,.slice Af nf cf,.int .i64 b])/\DrawnG g w W m cm q vc Aq nq cq s cs Af nf cf fr b:=by
 obtain⟨w1,hw1⟩:∃ W,W=w.alloc (.cells #[.int .i64 0,.int .i64 0,.int .i64 0,.int .i64 0,.int .i64 0,.slice none 0 0,.int .i64 0,.int .i64 0,.int .i64 0,.int .i64 0,.int .i64 0,.slice none 0 0,.int .i64 0,.int .i64 0,.int .i64 0,.int .i64 0,.int .i64 0,.slice none 0 0,.int .i64 0,.int .i64 0,.int .i64 0,.int .i64 0,.int .i64 0,.slice none 0 0,.int .i64 0,.int .i64 0,.int .i64 0,.int .i64 0,.int .i64 0,.slice none 0 0] 28):=⟨_,rfl⟩
 obtain⟨w2,hw2⟩:∃ W,W=w1.alloc (.cells #[.int .i64 0,.slice none 0 0] 31):=⟨_,rfl⟩
 obtain⟨w3,hw3⟩:∃ W,W=w2.alloc (.cells #[.slice none 0 0,.slice none 0 0,.slice none 0 0,.slice none 0 0,.slice none 0 0] 37):=⟨_,rfl⟩
 have hs1:w1.heap.size=w.heap.size+1:=by rw [hw1];simp
 have hs2:w2.heap.size=w.heap.size+1+1:=by rw [hw2];simp [hs1]
 have hs3:w3.heap.size=w.heap.size+3:=by rw [hw3];simp [hs2]
 have b1:Below w.heap.size w w1:=by rw [hw1];exact(Below.refl _ _).alloc (Nat.le_refl _) _
 have b2:Below w1.heap.size w1 w2:=by rw [hw2];exact(Below.refl _ _).alloc (Nat.le_refl _) _
 have b3:Below w2.heap.size w2 w3:=by rw [hw3];exact(Below.refl _ _).alloc (Nat.le_refl _) _
 have r0:Bk w3 w.heap.size 28 [.int .i64 0,.int .i64 0,.int .i64 0,.int .i64 0,.int .i64 0,.slice none 0 0,.int .i64 0,.int .i64 0,.int .i64 0,.int .i64 0,.int .i64 0,.slice none 0 0,.int .i64 0,.int .i64 0,.int .i64 0,.int .i64 0,.int .i64 0,.slice none 0 0,.int .i64 0,.int .i64 0,.int .i64 0,.int .i64 0,.int .i64 0,.slice none 0 0,.int .i64 0,.int .i64 0,.int .i64 0,.int .i64 0,.int .i64 0,.slice none 0 0]:=Bk.below (w:=w2) (Bk.below (w:=w1) (by rw [hw1];exact Bk.new w _ _) b2) b3
 have r1:Bk w3 (w.heap.size+1) 31 [.int .i64 0,.slice none 0 0]:=Bk.below (w:=w2) (by rw [hw2,<- hs1];exact Bk.new w1 _ _) b3
 have r2:Bk w3 (w.heap.size+1+1) 37 [.slice none 0 0,.slice none 0 0,.slice none 0 0,.slice none 0 0,.slice none 0 0]:=by rw [hw3,<- hs2];exact Bk.new w2 _ _
 have bb:=(b1.trans (b2.mono (by omega))).trans (b3.mono (by omega))
 have hr3:=hr.below rByte_ok bb
 have HW:Hid (w1=w.alloc (.cells #[.int .i64 0,.int .i64 0,.int .i64 0,.int .i64 0,.int .i64 0,.slice none 0 0,.int .i64 0,.int .i64 0,.int .i64 0,.int .i64 0,.int .i64 0,.slice none 0 0,.int .i64 0,.int .i64 0,.int .i64 0,.int .i64 0,.int .i64 0,.slice none 0 0,.int .i64 0,.int .i64 0,.int .i64 0,.int .i64 0,.int .i64 0,.slice none 0 0,.int .i64 0,.int .i64 0,.int .i64 0,.int .i64 0,.int .i64 0,.slice none 0 0] 28)/\w2=w1.alloc (.cells #[.int .i64 0,.slice none 0 0] 31)/\w3=w2.alloc (.cells #[.slice none 0 0,.slice none 0 0,.slice none 0 0,.slice none 0 0,.slice none 0 0] 37)):=⟨hw1,hw2,hw3⟩
 have HS3:=Lib.hid hs3
 clear hw1 hw2 hw3 hs1 hs2 hs3 b1 b2 b3 hr
 go_enter Tryz.func14,Tryz.ntmps14
 go_upto_region 1 with fail
 obtain⟨hw1,hw2,hw3⟩:=HW.out
 rw [<- hw1,<- hw2,<- hw3]
 clear hw1 hw2 hw3 HW
 go_wp2_with fail
 refine(l31Both_c A n cap l w3 hr3).mono ?_
 rintro e w5 ⟨g,m,cm,q,vc,Aq,nq,cq,s,cs,bv,rfl,hg,cu5,hb5,hbI,SM,SQ,SS⟩
 have H5:Lb w g w5:=⟨cu5,bb.trans (hb5.mono bb.size),r0.below hb5,r1.below hb5,r2.below hb5,by have:=HS3.out;omega⟩
 obtain⟨AL,nL,cL,AH,nH,cH,AC,nC,cC,AK,nK,cK,AP,nP,cP,rfl,_⟩:=rSpace_rep.1 SS.rep
 have lenm:=(rModel_ok NB).len SM.rep
 have ON:=one_rep (rModel_ok NB) SM.rep
 have hcz:cm.toArray.size=30:=List.size_toArray.trans lenm
 obtain⟨gM,hgM⟩:∃ z,z=w5.heap.size:=⟨_,rfl⟩
 obtain⟨w6,hw6⟩:∃ W,W=w5.alloc (.cells #[.int .i64 0,.int .i64 0,.int .i64 0,.int .i64 0,.int .i64 0,.slice none 0 0,.int .i64 0,.int .i64 0,.int .i64 0,.int .i64 0,.int .i64 0,.slice none 0 0,.int .i64 0,.int .i64 0,.int .i64 0,.int .i64 0,.int .i64 0,.slice none 0 0,.int .i64 0,.int .i64 0,.int .i64 0,.int .i64 0,.int .i64 0,.slice none 0 0,.int .i64 0,.int .i64 0,.int .i64 0,.int .i64 0,.int .i64 0,.slice none 0 0] 28):=⟨_,rfl⟩
 obtain⟨w7,hw7⟩:∃ W,W=w6.alloc (.cells #[.int .i64 0,.slice none 0 0] 31):=⟨_,rfl⟩
 obtain⟨w8,hw8⟩:∃ W,W=w7.alloc (.cells #[.slice none 0 0,.slice none 0 0,.slice none 0 0,.slice none 0 0,.slice none 0 0] 37):=⟨_,rfl⟩
 have hs6:w6.heap.size=gM+1:=by rw [hw6,hgM];simp
 have hs7:w7.heap.size=gM+1+1:=by rw [hw7];simp [hs6]
 have b6:Below w5.heap.size w5 w6:=by rw [hw6];exact(Below.refl _ _).alloc (Nat.le_refl _) _
 have b7:Below w6.heap.size w6 w7:=by rw [hw7];exact(Below.refl _ _).alloc (Nat.le_refl _) _
 have b8:Below w7.heap.size w7 w8:=by rw [hw8];exact(Below.refl _ _).alloc (Nat.le_refl _) _
 have kM0:Bk w8 gM 28 [.int .i64 0,.int .i64 0,.int .i64 0,.int .i64 0,.int .i64 0,.slice none 0 0,.int .i64 0,.int .i64 0,.int .i64 0,.int .i64 0,.int .i64 0,.slice none 0 0,.int .i64 0,.int .i64 0,.int .i64 0,.int .i64 0,.int .i64 0,.slice none 0 0,.int .i64 0,.int .i64 0,.int .i64 0,.int .i64 0,.int .i64 0,.slice none 0 0,.int .i64 0,.int .i64 0,.int .i64 0,.int .i64 0,.int .i64 0,.slice none 0 0]:=Bk.below (w:=w7) (Bk.below (w:=w6) (by rw [hw6,hgM];exact Bk.new w5 _ _) b7) b8
 have kQ0:Bk w8 (gM+1) 31 [.int .i64 0,.slice none 0 0]:=Bk.below (w:=w7) (by rw [hw7,<- hs6];exact Bk.new w6 _ _) b8
 have kS0:Bk w8 (gM+1+1) 37 [.slice none 0 0,.slice none 0 0,.slice none 0 0,.slice none 0 0,.slice none 0 0]:=by rw [hw8,<- hs7];exact Bk.new w7 _ _
 have b58:Below w5.heap.size w5 w8:=(b6.trans (b7.mono (by omega))).trans (b8.mono (by omega))
 have TH:w8.there gM 0 cm.toArray.size:=by rw [hcz];exact kM0.there
 obtain⟨W9,hW9⟩:∃ W,W=setCells w8 gM 0 cm:=⟨_,rfl⟩
 obtain⟨W10,hW10⟩:∃ W,W=(W9.setCell ⟨gM+1,0,none⟩ (.int .i64 vc)).setCell ⟨gM+1,1,none⟩ (.slice Aq nq cq):=⟨_,rfl⟩
 obtain⟨W11,hW11⟩:∃ W,W=((((W10.setCell ⟨gM+1+1,0,none⟩ (.slice AL nL cL)).setCell ⟨gM+1+1,1,none⟩ (.slice AH nH cH)).setCell ⟨gM+1+1,2,none⟩ (.slice AC nC cC)).setCell ⟨gM+1+1,3,none⟩ (.slice AK nK cK)).setCell ⟨gM+1+1,4,none⟩ (.slice AP nP cP):=⟨_,rfl⟩
 have b9:Below gM w5 W9:=by rw [hW9];exact Below.setCells (hgM▸b58) (Nat.le_refl _) _ _
 have b10:Below gM w5 W10:=by rw [hW10];exact bls2 b9 (by omega) _ _
 have b11:Below gM w5 W11:=by rw [hW11];exact bls5 b10 (by omega) _ _ _ _ _
 have kM9:Bk W9 gM 28 cm:=by rw [hW9];exact kM0.fill (by rw [lenm];rfl)
 have kQ9:Bk W9 (gM+1) 31 [.int .i64 0,.slice none 0 0]:=by rw [hW9];exact kQ0.otherC (by omega) 0 cm
 have kS9:Bk W9 (gM+1+1) 37 [.slice none 0 0,.slice none 0 0,.slice none 0 0,.slice none 0 0,.slice none 0 0]:=by rw [hW9];exact kS0.otherC (by omega) 0 cm
 have n10:∀ z,z≠gM+1->W10.heap[z]?=W9.heap[z]?:=fun z hz=>by rw [hW10];exact(heap_setCell_other _ ⟨gM+1,1,none⟩ z _ (fun e=>hz e)).trans (heap_setCell_other _ ⟨gM+1,0,none⟩ z _ (fun e=>hz e))
 have kQ10:Bk W10 (gM+1) 31 [.int .i64 vc,.slice Aq nq cq]:=by rw [hW10];exact(kQ9.set 0 _).set 1 _
 have kS10:Bk W10 (gM+1+1) 37 [.slice none 0 0,.slice none 0 0,.slice none 0 0,.slice none 0 0,.slice none 0 0]:=(n10 _ (by omega)).trans kS9
 have n11:∀ z,z≠gM+1+1->W11.heap[z]?=W10.heap[z]?:=fun z hz=>by rw [hW11];exact set5_ne hz _ _ _ _ _
 have kM:Bk W11 gM 28 cm:=(n11 _ (by omega)).trans ((n10 _ (by omega)).trans kM9)
 have kQ:Bk W11 (gM+1) 31 [.int .i64 vc,.slice Aq nq cq]:=(n11 _ (by omega)).trans kQ10
 have kS:Bk W11 (gM+1+1) 37 [.slice AL nL cL,.slice AH nH cH,.slice AC nC cC,.slice AK nK cK,.slice AP nP cP]:=by rw [hW11];exact kS10.set5 _ _ _ _ _
 have b5b:Below w5.heap.size w5 W11:=hgM▸b11
 have hggM:g<gM:=by rw [hgM];exact H5.cu.lt
 have H11:=H5.low b5b H5.cu.lt
 have HM:=SM.step (OutS.ofBelow b5b)
 have HQ:=SQ.step (OutS.ofBelow b5b)
 have HSp:=SS.step (OutS.ofBelow b5b)
 have ⟨q0,g0,q1,g1⟩:=kQ9.r2
 have ⟨p0,f0,p1,f1,p2,f2,p3,f3,p4,f4⟩:=kS9.r5
 have HWK:Hid (w8.setCells gM 0 cm.toArray.toList=W9):=by show _=_;rw [setCells_kit,hW9]
 have HGM:=Lib.hid hgM
 have HW:Hid (w6=w5.alloc (.cells #[.int .i64 0,.int .i64 0,.int .i64 0,.int .i64 0,.int .i64 0,.slice none 0 0,.int .i64 0,.int .i64 0,.int .i64 0,.int .i64 0,.int .i64 0,.slice none 0 0,.int .i64 0,.int .i64 0,.int .i64 0,.int .i64 0,.int .i64 0,.slice none 0 0,.int .i64 0,.int .i64 0,.int .i64 0,.int .i64 0,.int .i64 0,.slice none 0 0,.int .i64 0,.int .i64 0,.int .i64 0,.int .i64 0,.int .i64 0,.slice none 0 0] 28)/\w7=w6.alloc (.cells #[.int .i64 0,.slice none 0 0] 31)/\w8=w7.alloc (.cells #[.slice none 0 0,.slice none 0 0,.slice none 0 0,.slice none 0 0,.slice none 0 0] 37)):=⟨hw6,hw7,hw8⟩
 have HW10:=Lib.hid hW10
 have HW11:=Lib.hid hW11
 clear hgM hs6 hs7 hw6 hw7 hw8 hW9 hW10 hW11 b6 b7 b8 b58 b9 b10 b11 b5b kM0 kQ0 kS0 kM9 kQ9 kS9 kQ10 kS10 n10 n11 SM SQ SS H5 r0 r1 r2 bb hr3 HS3 hb5 cu5 hg
 go_upto_region 2 with (refine wpList_store_mid rfl 28 _ _ rfl gM 0 cm.toArray (by rw [HGM.out];rfl) rfl (by rw [<- HW.out.1,<- HW.out.2.1,<- HW.out.2.2];exact TH) (by rw [hcz];exact sizeModelT) ON ?_;rw [<- HW.out.1,<- HW.out.2.1,<- HW.out.2.2,HWK.out,<- HGM.out])
 rw [<- HW10.out,<- HW11.out]
 clear HW10 HW11 HWK HGM HW TH q0 g0 q1 g1 p0 f0 p1 f1 p2 f2 p3 f3 p4 f4
 have ⟨s0,y0,s1,y1,s2,y2,s3,y3,s4,y4⟩:=kS.r5
 go_wp2_with fail
 refine(sFrontier_c _ s bv W11 HSp.rep).mono ?_
 rintro e W12 ⟨Af,nf,cf,rfl,mF,hb12⟩
 have hfl:=front_len s bv
 obtain⟨fr,hfr⟩:∃ v,frontier s bv=v:=⟨_,rfl⟩
 rw [hfr]at mF hfl
 have hgW:g<W11.heap.size:=H11.cu.lt
 have H12:=H11.low hb12 hgW
 have hnf:nf<=400:=by have:=mF.len;omega
 have hgM0:w.heap.size+3<=g:=H11.hg
 have O12:OutS (fun k=>k<=g) W11 W12:=OutS.ofBelow hb12
 clear hfr hfl hb12 H11 s0 y0 s1 y1 s2 y2 s3 y3 s4 y4
 go_wp2_with fail
 refine(l1Once_c g 12 W12 (by omega) H12.cu).mono ?_
 rintro e W14 ⟨bl,rfl,cu14,ch14⟩
 have H14:=H12.step ch14 cu14
 have O14:=O12.trans (OutS.chg ch14 (S:=fun k=>k<=g) (by simp))
 replace mF:=mF.outS rInt_ok (S:=fun z=>z=g) (fun z hz e=>by omega) (OutS.chg ch14 (by simp))
 clear ch14 cu14 H12 O12
 cases bl
 focus
  go_upto_region 5 with fail
  obtain⟨WF,hWF⟩:∃ W,W=W14:=⟨_,rfl⟩
  obtain⟨AF,hAF⟩:∃ z,z=Af:=⟨_,rfl⟩
  obtain⟨nF,hnF⟩:∃ z,z=nf:=⟨_,rfl⟩
  obtain⟨cF,hcF⟩:∃ z,z=cf:=⟨_,rfl⟩
  obtain⟨lF,hlF⟩:∃ z,z=fr:=⟨_,rfl⟩
  have MF:=mF
  have HF:=H14
  have OF:=O14
  rw [<- hAF,<- hnF,<- hcF,<- hlF,<- hWF]at MF
  rw [<- hWF]at HF OF ⊢
  rw [<- hAF,<- hnF,<- hcF]
  clear hWF hAF hnF hcF hlF H14 O14 mF
  refine Hid.out (?_:Hid _)
 rotate_left
 focus
  obtain⟨W15,hW15⟩:∃ W,W=W14.alloc (.cells #[.int .i64 (-1),.int .i64 0,.int .i64 400] 3):=⟨_,rfl⟩
  have b15:Below W14.heap.size W14 W15:=by rw [hW15];exact(Below.refl _ _).alloc (Nat.le_refl _) _
  have rL:RS NB rInt W15 (some ⟨W14.heap.size,0,none⟩) 3 3 [-1,0,400]:=by rw [hW15];exact RS.lit W14 [-1,0,400] _ (by simp) (by simp [I64])
  have H15:=H14.low b15 H14.cu.lt
  have hgl:=H14.cu.lt
  have hne:∀ k∈blk (some (⟨W14.heap.size,0,none⟩:Addr)),k≠g:=fun k hk=>by simp [blk]at hk;omega
  go_wp2_with fail
  rw [<- hW15]
  clear hW15
  refine(l1PickInt_c g _ 3 3 [-1,0,400] W15 rL hne (by omega) H15.cu).mono ?_
  rintro e W16 ⟨v,rfl,hv,cu16,ch16⟩
  have H16:=H15.step ch16 cu16
  have hvI:I64 v:=by unfold I64;simp at hv;omega
  have O16:=(O14.trans (OutS.ofBelow b15)).trans (OutS.chg ch16 (S:=fun k=>k<=g) (by simp))
  replace mF:=(mF.below rInt_ok b15).outS rInt_ok (S:=fun z=>z=g) (fun z hz e=>by omega) (OutS.chg ch16 (by simp))
  have ba:=(Below.refl W16.heap.size W16).alloc (Nat.le_refl _) (.cells #[.int .i64 v] 3)
  have h116:W11.heap.size<=W16.heap.size:=O16.1
  have hK1:nf+1<=NB:=by unfold NB;omega
  have hK8:(nf+1)*8<=140737488355328:=by omega
  clear H15 O14 H14 b15 rL hne ch16 cu16 hv hgl
  go_upto_region 5 with (at_builtin;refine wpList_appB rfl _ _ 32 rfl _ 8 eiInt rInt_ok rfl mF ba h116 ⟨W16.heap.size,0,none⟩ rfl [] [.int .i64 v] v ⟨rfl,rfl,hvI⟩ (Fr.nil _) (cell_one_new _ _ _) hK1 (Nat.le_refl _) hK8 ?_;intro A6 c6 w6 hM6 hb6 hg6 hd6)
  have hb66:Below W11.heap.size W16 w6:=(ba.mono h116).trans hb6
  have H17:Lb w g w6:=H16.low hb66 hgW
  have O17:OutS (fun k=>k<=g) W11 w6:=⟨Nat.le_trans h116 hb66.size,fun k h1 h2=>(hb66.block k h2).trans (O16.2 k h1 h2)⟩
  obtain⟨WF,hWF⟩:∃ W,W=w6:=⟨_,rfl⟩
  obtain⟨AF,hAF⟩:∃ z,z=A6:=⟨_,rfl⟩
  obtain⟨nF,hnF⟩:∃ z,z=nf+1:=⟨_,rfl⟩
  obtain⟨cF,hcF⟩:∃ z,z=c6:=⟨_,rfl⟩
  obtain⟨lF,hlF⟩:∃ z,z=fr++[v]:=⟨_,rfl⟩
  have MF:=hM6
  have HF:=H17
  have OF:=O17
  rw [<- hAF,<- hnF,<- hcF,<- hlF,<- hWF]at MF
  rw [<- hWF]at HF OF ⊢
  rw [<- hAF,<- hnF,<- hcF]
  clear hWF hAF hnF hcF hlF H17 O17 H16 O16 mF hM6 hb6 hg6 hd6 hb66 ba h116 hvI hK1 hK8
  refine Hid.out (?_:Hid _)
 all_goals
  refine Lib.hid ?_
  obtain⟨csF,hF⟩:∃ c:List Value,c=[.slice AL nL cL,.slice AH nH cH,.slice AC nC cC,.slice AK nK cK,.slice AP nP cP]:=⟨_,rfl⟩
  have lenF:csF.length=5:=by rw [hF];rfl
  rw [<- hF]at kS HSp
  clear hF
  have ON5:=one_rep (rSpace_ok NB) HSp.rep
  have hcz5:csF.toArray.size=5:=List.size_toArray.trans lenF
  have hgF:g<WF.heap.size:=HF.cu.lt
  -- the cursor's and the results' blocks turn; the data's boxes stand
  have HSS:Hid (∀ w':World,OutS (fun k=>k<=g) WF w'->w'.rangeAt gM 0 cm/\w'.cell? ⟨gM+1,0,none⟩=some (.int .i64 vc)/\w'.cell? ⟨gM+1,1,none⟩=some (.slice Aq nq cq)/\w'.rangeAt (gM+1+1) 0 csF):=by
   show ∀ w':World,_->_
   intro w' h
   have O:=OF.trans h
   have e1:Bk w' gM 28 cm:=(O.2 gM (by omega) kM.lt).trans kM
   have e2:Bk w' (gM+1) 31 [.int .i64 vc,.slice Aq nq cq]:=(O.2 (gM+1) (by omega) kQ.lt).trans kQ
   have e3:Bk w' (gM+1+1) 37 csF:=(O.2 (gM+1+1) (by omega) kS.lt).trans kS
   exact⟨e1.rangeAt,e2.bx 0 _ rfl,e2.bx 1 _ rfl,e3.rangeAt⟩
  obtain⟨Z1,hZ1⟩:∃ z:Int,(if (1000000:Int)<bv then 1000000 else bv)=z:=⟨_,rfl⟩
  have hZ1b:Z1<=1000000:=by rw [<- hZ1];split<;>omega
  obtain⟨Z2,hZ2⟩:∃ z:Int,(if (0:Int)<Z1 then Z1 else 0)=z:=⟨_,rfl⟩
  have hZ2b:0<=Z2/\Z2<=1000000:=by rw [<- hZ2];split<;>omega
  have hdr:=(Below.refl WF.heap.size WF).drew
  have Od:OutS (fun k=>k<=g) WF WF.drew:=OutS.ofBelow hdr
  have hal:=hdr.alloc hdr.size (.cells #[.int .i64 0,.int .i64 20,.int .i64 50] 3)
  have Oa:OutS (fun k=>k<=g) WF (WF.drew.alloc (.cells #[.int .i64 0,.int .i64 20,.int .i64 50] 3)):=OutS.ofBelow hal
  have rL:RS NB rInt (WF.drew.alloc (.cells #[.int .i64 0,.int .i64 20,.int .i64 50] 3)) (some ⟨WF.drew.heap.size,0,none⟩) 3 3 [0,20,50]:=RS.lit WF.drew [0,20,50] _ (by simp) (by simp [I64])
  have hne:∀ k∈blk (some (⟨WF.drew.heap.size,0,none⟩:Addr)),k≠g:=fun k hk=>by
   simp only [blk,List.mem_singleton]at hk
   have:WF.drew.heap.size=WF.heap.size:=rfl
   omega
  have Ha:=HF.low hal hgF
  refine hbg HSS.out Od (fun hHeld=>?_)
  refine tka 0 33 hHeld ?_;simp only [putS]
  refine' wpAnyH_take (i:=1) (oi:=⟨some 34,_,_,_,_,_⟩) (v:=_) rfl (by kernel_rfl) (by kernel_rfl) (by kernel_rfl) (fun _ _ _ h=>h) (yieldsIf_load_mid (by rfl) _ _ rfl _ _ rfl _ _ (fun w h=>h.1) Tryz.underlying28 rfl (by rw [lenm];exact sizeModelT)) hHeld ?_
  simp only [putS]
  refine tka 2 35 hHeld ?_;simp only [putS]
  refine' wpAnyH_take (i:=3) (oi:=⟨some 36,_,_,_,_,_⟩) (v:=_) rfl (by kernel_rfl) (by kernel_rfl) (by kernel_rfl) (fun _ _ _ h=>h) (yieldsIf_load_mid (by rfl) _ _ rfl _ _ rfl _ _ (fun w h=>h.2.2.2) Tryz.underlying37 rfl (by rw [lenF];exact sizeSpaceT)) hHeld ?_
  simp only [putS]
  refine tka 4 37 hHeld ?_;simp only [putS]
  refine tka 5 38 hHeld ?_;simp only [putS]
  refine tka 6 39 hHeld ?_;simp only [putS]
  refine tka 7 40 hHeld ?_;simp only [putS]
  refine tka 8 41 hHeld ?_;simp only [putS]
  refine rd 9 (some 42) fun K hK=>?_
  clear hHeld
  go_simp
  refine hK.out _ _ (HSS.out _ Oa) (fun hHeld=>?_)
  clear hK K
  try simp only [putS]
  refine rd 10 (some 43) fun K hK=>?_
  clear hHeld
  go_simp
  refine(l1PickInt_c g _ 3 3 [0,20,50] _ rL hne (by omega) Ha.cu).mono ?_
  rintro e W43 ⟨z,rfl,hz,cu43,ch43⟩
  have H43:=Ha.step ch43 cu43
  have O43:=Oa.trans (OutS.chg ch43 (S:=fun k=>k<=g) (by simp))
  go_wp2_with fail
  refine hK.out _ _ (HSS.out _ O43) (fun hHeld=>?_)
  clear hK K
  try simp only [putS]
  have hzb:0<=z/\z<=50:=by simp at hz;omega
  have hz1:IntKind.i64.wrap (100+z)=100+z:=IntWalk.i64_in _ (by omega)
  obtain⟨P,hP⟩:∃ P:Int,Z2*(100+z)=P:=⟨_,rfl⟩
  have hPb:0<=P/\P<=150000000:=by
   rw [<- hP]
   exact⟨Int.mul_nonneg hZ2b.1 (by omega),Int.le_trans (Int.mul_le_mul hZ2b.2 (by omega:100+z<=150) (by omega) (by omega)) (by decide)⟩
  have hz2:IntKind.i64.wrap P=P:=IntWalk.i64_in _ (by omega)
  have hP3:P.tdiv 100=P / 100:=Int.tdiv_eq_ediv_of_nonneg hPb.1
  have hz3:IntKind.i64.wrap (P / 100)=P / 100:=IntWalk.i64_in _ (by omega)
  refine tka 11 44 hHeld ?_;simp only [putS]
  refine tka 12 45 hHeld ?_;simp only [putS]
  refine tka 13 46 hHeld ?_;simp only [putS]
  clear hz1 hz2 hP hP3 hz3 hZ1 hZ2 hZ1b hZ2b hz hzb
  obtain⟨W1,h1⟩:∃ W,W=setCells W43 w.heap.size 0 cm:=⟨_,rfl⟩
  obtain⟨W2,h2⟩:∃ W,W=set2 W1 (w.heap.size+1) (.int .i64 vc) (.slice Aq nq cq):=⟨_,rfl⟩
  obtain⟨W3,h3⟩:∃ W,W=setCells W2 (w.heap.size+1+1) 0 csF:=⟨_,rfl⟩
  obtain⟨⟨t1,t2⟩,⟨u0,u1,u2⟩,hk,hsz,hbz⟩:=stores3 H43.r0 H43.r1 H43.r2 lenm lenF (.int .i64 vc) (.slice Aq nq cq) h1 h2 h3
  have hs1:W1.heap.size=W43.heap.size:=by rw [h1];simp [setCells_size]
  have hs2:W2.heap.size=W43.heap.size:=by rw [h2,<- hs1];simp
  have TH:W43.there w.heap.size 0 cm.toArray.size:=by rw [hcz];exact H43.r0.there
  have TH2:W2.there (w.heap.size+1+1) 0 csF.toArray.size:=by rw [hcz5];exact t2.there
  have ⟨c1,f1,c1',f1'⟩:=t1.r2
  have q1:OutS (fun k=>k<=g) WF W1:=O43.trans ⟨by omega,fun k hn _=>(hk k (by omega)).1⟩
  have q2:OutS (fun k=>k<=g) WF W2:=O43.trans ⟨by omega,fun k hn _=>(hk k (by omega)).2.1⟩
  have q3:OutS (fun k=>k<=g) WF W3:=O43.trans ⟨by omega,fun k hn _=>(hk k (by omega)).2.2⟩
  have OO:=OF.trans q3
  have h2':W2=(W1.setCell ⟨w.heap.size+1,0,none⟩ (.int .i64 vc)).setCell ⟨w.heap.size+1,1,none⟩ (.slice Aq nq cq):=h2
  have D:DrawnG g w W3 m cm q vc Aq nq cq s csF AF nF cF lF (P / 100):=⟨HM.step OO,HQ.step OO,HSp.step OO,⟨_,by omega,MF.outS rInt_ok (S:=fun k=>k<=g) (fun z hz e=>by omega) q3⟩,by unfold I64;omega,H43.be.trans hbz,by omega⟩
  have G1:=Lib.hid h1
  have G2:=Lib.hid h2'
  have G3:=Lib.hid h3
  clear h1 h2 h2' h3 hk t1 t2 hsz hbz HF HM HQ HSp kM kQ kS OF OO MF H43 hs1 hs2 Oa hal Ha rL hne Od hdr
  refine rd 14 (some 2) fun K hK=>?_
  clear hHeld
  go_simp
  refine hK.out _ _ (HSS.out _ O43) (fun hHeld=>?_)
  clear hK K
  try simp only [putS]
  refine rd 15 none fun K hK=>?_
  clear hHeld
  rw [if_pos (by rfl)]
  refine wp_store_mid 28 _ _ rfl w.heap.size 0 cm.toArray rfl rfl TH (by rw [hcz];exact sizeModelT) ON ?_
  rw [setCells_kit,List.toList_toArray,<- G1.out]
  refine hK.out _ _ (HSS.out _ q1) (fun hHeld=>?_)
  clear hK K
  try simp only [putS]
  refine rd 16 none fun K hK=>?_
  clear hHeld
  go_simp
  rw [<- G2.out]
  refine hK.out _ _ (HSS.out _ q2) (fun hHeld=>?_)
  clear hK K
  try simp only [putS]
  refine rd 17 none fun K hK=>?_
  clear hHeld
  rw [if_pos (by rfl)]
  refine wp_store_mid 37 _ _ rfl (w.heap.size+1+1) 0 csF.toArray rfl rfl TH2 (by rw [hcz5];exact sizeSpaceT) ON5 ?_
  rw [setCells_kit,List.toList_toArray,<- G3.out]
  refine hK.out _ _ (HSS.out _ q3) (fun hHeld=>?_)
  clear hK K
  try simp only [putS]
  refine tka 18 6 hHeld ?_;simp only [putS]
  refine tka 19 7 hHeld ?_;simp only [putS]
  refine wpAnyH_done (by kernel_rfl) ?_ _
  clear hHeld
  go_wp2
  refine bodyPost_ret (results_tccctt Tryz.results14 rfl rfl rfl (RC.mk' rfl u0.rangeAt Tryz.underlying28 rfl (by rw [lenm];exact sizeModelT)) (RC.mk' rfl u1.rangeAt Tryz.underlying31 rfl sizeQuT) (RC.mk' rfl u2.rangeAt Tryz.underlying37 rfl (by rw [lenF];exact sizeSpaceT))) rfl ?_
  exact⟨g,m,cm,q,vc,Aq,nq,cq,s,csF,AF,nF,cF,lF,P / 100,rfl,D⟩
set_option maxRecDepth 100000 in
set_option maxHeartbeats 12800000 in
theorem drawReducePlans_c (A:Option Addr) (n cap:Nat) (l:List Int) (w:World) (hr:RS NB rByte w A n cap l) :
  Calls Tryz.prog 5 #[.slice A n cap] w fun e W=>∃ (m:ModelD) (cm:List Value) (q:QueryD) (vc:Int) (Aq:Option Addr) (nq cq:Nat) (s:SpaceD) (cs:List Value) (Af:Option Addr) (nf cf:Nat) (fr:List Int) (b:Int),e=.returned (.tuple #[.agg cm.toArray,.agg #[.int .i64 vc,.slice Aq nq cq],.agg cs.toArray,.slice Af nf cf,.int .i64 b])/\DrawnD w W m cm q vc Aq nq cq s cs Af nf cf fr b:=by
 obtain⟨w1,hw1⟩:∃ W,W=w.alloc (.cells #[.int .i64 0,.int .i64 0,.int .i64 0,.int .i64 0,.int .i64 0,.slice none 0 0,.int .i64 0,.int .i64 0,.int .i64 0,.int .i64 0,.int .i64 0,.slice none 0 0,.int .i64 0,.int .i64 0,.int .i64 0,.int .i64 0,.int .i64 0,.slice none 0 0,.int .i64 0,.int .i64 0,.int .i64 0,.int .i64 0,.int .i64 0,.slice none 0 0,.int .i64 0,.int .i64 0,.int .i64 0,.int .i64 0,.int .i64 0,.slice none 0 0] 28):=⟨_,rfl⟩
 obtain⟨w2,hw2⟩:∃ W,W=w1.alloc (.cells #[.int .i64 0,.slice none 0 0] 31):=⟨_,rfl⟩
 obtain⟨w3,hw3⟩:∃ W,W=w2.alloc (.cells #[.slice none 0 0,.slice none 0 0,.slice none 0 0,.slice none 0 0,.slice none 0 0] 37):=⟨_,rfl⟩
 have hs1:w1.heap.size=w.heap.size+1:=by rw [hw1];simp
 have hs2:w2.heap.size=w.heap.size+1+1:=by rw [hw2];simp [hs1]
 have hs3:w3.heap.size=w.heap.size+3:=by rw [hw3];simp [hs2]
 have b1:Below w.heap.size w w1:=by rw [hw1];exact(Below.refl _ _).alloc (Nat.le_refl _) _
 have b2:Below w1.heap.size w1 w2:=by rw [hw2];exact(Below.refl _ _).alloc (Nat.le_refl _) _
 have b3:Below w2.heap.size w2 w3:=by rw [hw3];exact(Below.refl _ _).alloc (Nat.le_refl _) _
 have r0:Bk w3 w.heap.size 28 [.int .i64 0,.int .i64 0,.int .i64 0,.int .i64 0,.int .i64 0,.slice none 0 0,.int .i64 0,.int .i64 0,.int .i64 0,.int .i64 0,.int .i64 0,.slice none 0 0,.int .i64 0,.int .i64 0,.int .i64 0,.int .i64 0,.int .i64 0,.slice none 0 0,.int .i64 0,.int .i64 0,.int .i64 0,.int .i64 0,.int .i64 0,.slice none 0 0,.int .i64 0,.int .i64 0,.int .i64 0,.int .i64 0,.int .i64 0,.slice none 0 0]:=Bk.below (w:=w2) (Bk.below (w:=w1) (by rw [hw1];exact Bk.new w _ _) b2) b3
 have r1:Bk w3 (w.heap.size+1) 31 [.int .i64 0,.slice none 0 0]:=Bk.below (w:=w2) (by rw [hw2,<- hs1];exact Bk.new w1 _ _) b3
 have r2:Bk w3 (w.heap.size+1+1) 37 [.slice none 0 0,.slice none 0 0,.slice none 0 0,.slice none 0 0,.slice none 0 0]:=by rw [hw3,<- hs2];exact Bk.new w2 _ _
 have bb:=(b1.trans (b2.mono (by omega))).trans (b3.mono (by omega))
 have hr3:=hr.below rByte_ok bb
 have HW:Hid (w1=w.alloc (.cells #[.int .i64 0,.int .i64 0,.int .i64 0,.int .i64 0,.int .i64 0,.slice none 0 0,.int .i64 0,.int .i64 0,.int .i64 0,.int .i64 0,.int .i64 0,.slice none 0 0,.int .i64 0,.int .i64 0,.int .i64 0,.int .i64 0,.int .i64 0,.slice none 0 0,.int .i64 0,.int .i64 0,.int .i64 0,.int .i64 0,.int .i64 0,.slice none 0 0,.int .i64 0,.int .i64 0,.int .i64 0,.int .i64 0,.int .i64 0,.slice none 0 0] 28)/\w2=w1.alloc (.cells #[.int .i64 0,.slice none 0 0] 31)/\w3=w2.alloc (.cells #[.slice none 0 0,.slice none 0 0,.slice none 0 0,.slice none 0 0,.slice none 0 0] 37)):=⟨hw1,hw2,hw3⟩
 have HS3:=Lib.hid hs3
 clear hw1 hw2 hw3 hs1 hs2 hs3 b1 b2 b3 hr
 go_enter Tryz.func5,Tryz.ntmps5
 go_upto_region 1 with fail
 obtain⟨hw1,hw2,hw3⟩:=HW.out
 rw [<- hw1,<- hw2,<- hw3]
 clear hw1 hw2 hw3 HW
 go_wp2_with fail
 refine(l32All_c A n cap l w3 hr3).mono ?_
 rintro e w5 ⟨g,m,cm,q,vc,Aq,nq,cq,s,cs,AF,nF,cF,lF,bv,rfl,SM,SQ,SS,⟨B,hB,SF⟩,bI,hb5,hg⟩
 obtain⟨AL,nL,cL,AH,nH,cH,AC,nC,cC,AK,nK,cK,AP,nP,cP,rfl,_⟩:=rSpace_rep.1 SS.rep
 have lenm:=(rModel_ok NB).len SM.rep
 have ON:=one_rep (rModel_ok NB) SM.rep
 have hcz:cm.toArray.size=30:=List.size_toArray.trans lenm
 have k0:=r0.below hb5
 have k1:=r1.below hb5
 have k2:=r2.below hb5
 have b05:=bb.trans (hb5.mono bb.size)
 have h3s:w.heap.size+3<=w5.heap.size:=by have:=HS3.out;have:=hb5.size;omega
 have hg3:w.heap.size+3<=g:=by have:=HS3.out;omega
 obtain⟨gM,hgM⟩:∃ z,z=w5.heap.size:=⟨_,rfl⟩
 obtain⟨w6,hw6⟩:∃ W,W=w5.alloc (.cells #[.int .i64 0,.int .i64 0,.int .i64 0,.int .i64 0,.int .i64 0,.slice none 0 0,.int .i64 0,.int .i64 0,.int .i64 0,.int .i64 0,.int .i64 0,.slice none 0 0,.int .i64 0,.int .i64 0,.int .i64 0,.int .i64 0,.int .i64 0,.slice none 0 0,.int .i64 0,.int .i64 0,.int .i64 0,.int .i64 0,.int .i64 0,.slice none 0 0,.int .i64 0,.int .i64 0,.int .i64 0,.int .i64 0,.int .i64 0,.slice none 0 0] 28):=⟨_,rfl⟩
 obtain⟨w7,hw7⟩:∃ W,W=w6.alloc (.cells #[.int .i64 0,.slice none 0 0] 31):=⟨_,rfl⟩
 obtain⟨w8,hw8⟩:∃ W,W=w7.alloc (.cells #[.slice none 0 0,.slice none 0 0,.slice none 0 0,.slice none 0 0,.slice none 0 0] 37):=⟨_,rfl⟩
 have hs6:w6.heap.size=gM+1:=by rw [hw6,hgM];simp
 have hs7:w7.heap.size=gM+1+1:=by rw [hw7];simp [hs6]
 have b6:Below w5.heap.size w5 w6:=by rw [hw6];exact(Below.refl _ _).alloc (Nat.le_refl _) _
 have b7:Below w6.heap.size w6 w7:=by rw [hw7];exact(Below.refl _ _).alloc (Nat.le_refl _) _
 have b8:Below w7.heap.size w7 w8:=by rw [hw8];exact(Below.refl _ _).alloc (Nat.le_refl _) _
 have kM0:Bk w8 gM 28 [.int .i64 0,.int .i64 0,.int .i64 0,.int .i64 0,.int .i64 0,.slice none 0 0,.int .i64 0,.int .i64 0,.int .i64 0,.int .i64 0,.int .i64 0,.slice none 0 0,.int .i64 0,.int .i64 0,.int .i64 0,.int .i64 0,.int .i64 0,.slice none 0 0,.int .i64 0,.int .i64 0,.int .i64 0,.int .i64 0,.int .i64 0,.slice none 0 0,.int .i64 0,.int .i64 0,.int .i64 0,.int .i64 0,.int .i64 0,.slice none 0 0]:=Bk.below (w:=w7) (Bk.below (w:=w6) (by rw [hw6,hgM];exact Bk.new w5 _ _) b7) b8
 have kQ0:Bk w8 (gM+1) 31 [.int .i64 0,.slice none 0 0]:=Bk.below (w:=w7) (by rw [hw7,<- hs6];exact Bk.new w6 _ _) b8
 have kS0:Bk w8 (gM+1+1) 37 [.slice none 0 0,.slice none 0 0,.slice none 0 0,.slice none 0 0,.slice none 0 0]:=by rw [hw8,<- hs7];exact Bk.new w7 _ _
 have b58:Below w5.heap.size w5 w8:=(b6.trans (b7.mono (by omega))).trans (b8.mono (by omega))
 have TH:w8.there gM 0 cm.toArray.size:=by rw [hcz];exact kM0.there
 obtain⟨W9,hW9⟩:∃ W,W=setCells w8 gM 0 cm:=⟨_,rfl⟩
 obtain⟨W10,hW10⟩:∃ W,W=(W9.setCell ⟨gM+1,0,none⟩ (.int .i64 vc)).setCell ⟨gM+1,1,none⟩ (.slice Aq nq cq):=⟨_,rfl⟩
 obtain⟨W11,hW11⟩:∃ W,W=((((W10.setCell ⟨gM+1+1,0,none⟩ (.slice AL nL cL)).setCell ⟨gM+1+1,1,none⟩ (.slice AH nH cH)).setCell ⟨gM+1+1,2,none⟩ (.slice AC nC cC)).setCell ⟨gM+1+1,3,none⟩ (.slice AK nK cK)).setCell ⟨gM+1+1,4,none⟩ (.slice AP nP cP):=⟨_,rfl⟩
 have b9:Below gM w5 W9:=by rw [hW9];exact Below.setCells (hgM▸b58) (Nat.le_refl _) _ _
 have b10:Below gM w5 W10:=by rw [hW10];exact bls2 b9 (by omega) _ _
 have b11:Below gM w5 W11:=by rw [hW11];exact bls5 b10 (by omega) _ _ _ _ _
 have kM9:Bk W9 gM 28 cm:=by rw [hW9];exact kM0.fill (by rw [lenm];rfl)
 have kQ9:Bk W9 (gM+1) 31 [.int .i64 0,.slice none 0 0]:=by rw [hW9];exact kQ0.otherC (by omega) 0 cm
 have kS9:Bk W9 (gM+1+1) 37 [.slice none 0 0,.slice none 0 0,.slice none 0 0,.slice none 0 0,.slice none 0 0]:=by rw [hW9];exact kS0.otherC (by omega) 0 cm
 have n10:∀ z,z≠gM+1->W10.heap[z]?=W9.heap[z]?:=fun z hz=>by rw [hW10];exact(heap_setCell_other _ ⟨gM+1,1,none⟩ z _ (fun e=>hz e)).trans (heap_setCell_other _ ⟨gM+1,0,none⟩ z _ (fun e=>hz e))
 have kQ10:Bk W10 (gM+1) 31 [.int .i64 vc,.slice Aq nq cq]:=by rw [hW10];exact(kQ9.set 0 _).set 1 _
 have kS10:Bk W10 (gM+1+1) 37 [.slice none 0 0,.slice none 0 0,.slice none 0 0,.slice none 0 0,.slice none 0 0]:=(n10 _ (by omega)).trans kS9
 have n11:∀ z,z≠gM+1+1->W11.heap[z]?=W10.heap[z]?:=fun z hz=>by rw [hW11];exact set5_ne hz _ _ _ _ _
 have kM:Bk W11 gM 28 cm:=(n11 _ (by omega)).trans ((n10 _ (by omega)).trans kM9)
 have kQ:Bk W11 (gM+1) 31 [.int .i64 vc,.slice Aq nq cq]:=(n11 _ (by omega)).trans kQ10
 have kS:Bk W11 (gM+1+1) 37 [.slice AL nL cL,.slice AH nH cH,.slice AC nC cC,.slice AK nK cK,.slice AP nP cP]:=by rw [hW11];exact kS10.set5 _ _ _ _ _
 have b5b:Below w5.heap.size w5 W11:=hgM▸b11
 have HM:=SM.step (OutS.ofBelow b5b)
 have HQ:=SQ.step (OutS.ofBelow b5b)
 have HSp:=SS.step (OutS.ofBelow b5b)
 have HFr:=SF.outS rInt_ok (S:=fun k=>k<=g) (fun z hz e=>by omega) (OutS.ofBelow b5b)
 have B11:=b05.trans (b5b.mono b05.size)
 have R0:=k0.below b5b
 have R1:=k1.below b5b
 have R2:=k2.below b5b
 have h11s:w.heap.size+3<=gM:=by omega
 have ⟨q0,g0,q1,g1⟩:=kQ9.r2
 have ⟨p0,f0,p1,f1,p2,f2,p3,f3,p4,f4⟩:=kS9.r5
 have HWK:Hid (w8.setCells gM 0 cm.toArray.toList=W9):=by show _=_;rw [setCells_kit,hW9]
 have HGM:=Lib.hid hgM
 have HW:Hid (w6=w5.alloc (.cells #[.int .i64 0,.int .i64 0,.int .i64 0,.int .i64 0,.int .i64 0,.slice none 0 0,.int .i64 0,.int .i64 0,.int .i64 0,.int .i64 0,.int .i64 0,.slice none 0 0,.int .i64 0,.int .i64 0,.int .i64 0,.int .i64 0,.int .i64 0,.slice none 0 0,.int .i64 0,.int .i64 0,.int .i64 0,.int .i64 0,.int .i64 0,.slice none 0 0,.int .i64 0,.int .i64 0,.int .i64 0,.int .i64 0,.int .i64 0,.slice none 0 0] 28)/\w7=w6.alloc (.cells #[.int .i64 0,.slice none 0 0] 31)/\w8=w7.alloc (.cells #[.slice none 0 0,.slice none 0 0,.slice none 0 0,.slice none 0 0,.slice none 0 0] 37)):=⟨hw6,hw7,hw8⟩
 have HW10:=Lib.hid hW10
 have HW11:=Lib.hid hW11
 clear hgM hs6 hs7 hw6 hw7 hw8 hW9 hW10 hW11 b6 b7 b8 b58 b9 b10 b11 b5b kM0 kQ0 kS0 kM9 kQ9 kS9 kQ10 kS10 n10 n11 SM SQ SS SF r0 r1 r2 k0 k1 k2 bb hr3 HS3 hb5 b05 h3s
 go_upto_region 2 with (refine wpList_store_mid rfl 28 _ _ rfl gM 0 cm.toArray (by rw [HGM.out];rfl) rfl (by rw [<- HW.out.1,<- HW.out.2.1,<- HW.out.2.2];exact TH) (by rw [hcz];exact sizeModelT) ON ?_;rw [<- HW.out.1,<- HW.out.2.1,<- HW.out.2.2,HWK.out,<- HGM.out])
 rw [<- HW10.out,<- HW11.out]
 clear HW10 HW11 HWK HGM HW TH q0 g0 q1 g1 p0 f0 p1 f1 p2 f2 p3 f3 p4 f4
 obtain⟨csF,hF⟩:∃ c:List Value,c=[.slice AL nL cL,.slice AH nH cH,.slice AC nC cC,.slice AK nK cK,.slice AP nP cP]:=⟨_,rfl⟩
 have lenF:csF.length=5:=by rw [hF];rfl
 rw [<- hF]at kS HSp
 clear hF
 have ON5:=one_rep (rSpace_ok NB) HSp.rep
 have hcz5:csF.toArray.size=5:=List.size_toArray.trans lenF
 obtain⟨W1,h1⟩:∃ W,W=setCells W11.drew w.heap.size 0 cm:=⟨_,rfl⟩
 obtain⟨W2,h2⟩:∃ W,W=set2 W1 (w.heap.size+1) (.int .i64 vc) (.slice Aq nq cq):=⟨_,rfl⟩
 obtain⟨W3,h3⟩:∃ W,W=setCells W2 (w.heap.size+1+1) 0 csF:=⟨_,rfl⟩
 have bd:=(Below.refl W11.heap.size W11).drew
 obtain⟨⟨t1,t2⟩,⟨u0,u1,u2⟩,hk,hsz,hbz⟩:=stores3 (R0.below bd) (R1.below bd) (R2.below bd) lenm lenF (.int .i64 vc) (.slice Aq nq cq) h1 h2 h3
 have TH:W11.drew.there w.heap.size 0 cm.toArray.size:=by rw [hcz];exact(R0.below bd).there
 have TH2:W2.there (w.heap.size+1+1) 0 csF.toArray.size:=by rw [hcz5];exact t2.there
 have ⟨c1,f1,c1',f1'⟩:=t1.r2
 have q0:∀ k,¬ (w.heap.size<=k/\k<w.heap.size+3)->W11.drew.heap[k]?=W11.heap[k]?:=fun k _=>rfl
 have q1:∀ k,¬ (w.heap.size<=k/\k<w.heap.size+3)->W1.heap[k]?=W11.heap[k]?:=fun k h=>(hk k h).1
 have q2:∀ k,¬ (w.heap.size<=k/\k<w.heap.size+3)->W2.heap[k]?=W11.heap[k]?:=fun k h=>(hk k h).2.1
 have q3:∀ k,¬ (w.heap.size<=k/\k<w.heap.size+3)->W3.heap[k]?=W11.heap[k]?:=fun k h=>(hk k h).2.2
 have HSS:Hid (∀ w':World,(∀ k,¬ (w.heap.size<=k/\k<w.heap.size+3)->w'.heap[k]?=W11.heap[k]?)->w'.rangeAt gM 0 cm/\w'.cell? ⟨gM+1,0,none⟩=some (.int .i64 vc)/\w'.cell? ⟨gM+1,1,none⟩=some (.slice Aq nq cq)/\w'.rangeAt (gM+1+1) 0 csF):=by
  show ∀ w':World,_->_
  intro w' h
  have e1:Bk w' gM 28 cm:=(h gM (by omega)).trans kM
  have e2:Bk w' (gM+1) 31 [.int .i64 vc,.slice Aq nq cq]:=(h (gM+1) (by omega)).trans kQ
  have e3:Bk w' (gM+1+1) 37 csF:=(h (gM+1+1) (by omega)).trans kS
  exact⟨e1.rangeAt,e2.bx 0 _ rfl,e2.bx 1 _ rfl,e3.rangeAt⟩
 have h2':W2=(W1.setCell ⟨w.heap.size+1,0,none⟩ (.int .i64 vc)).setCell ⟨w.heap.size+1,1,none⟩ (.slice Aq nq cq):=h2
 have OO:OutS (fun k=>k<=g) W11 W3:=⟨Nat.le_of_eq hsz.symm,fun k hn _=>q3 k (by omega)⟩
 have D:DrawnD w W3 m cm q vc Aq nq cq s csF AF nF cF lF bv:=⟨HM _ OO,HQ _ OO,HSp _ OO,(HFr.outS rInt_ok (S:=fun k=>k<=g) (fun z hz e=>by omega) OO).rs rInt_ok,bI,(B11.trans (bd.mono B11.size)).trans hbz⟩
 have G1:=Lib.hid h1
 have G2:=Lib.hid h2'
 have G3:=Lib.hid h3
 clear h1 h2 h2' h3 hk t1 t2 hsz hbz HM HQ HSp HFr kM kQ kS R0 R1 R2 B11 bd OO
 refine hbg HSS.out q0 (fun hHeld=>?_)
 refine' wpAnyH_take (i:=0) (oi:=⟨some 22,_,_,_,_,_⟩) (v:=_) rfl (by kernel_rfl) (by kernel_rfl) (by kernel_rfl) (fun _ _ _ h=>h) (yieldsIf_load_mid (by rfl) _ _ rfl _ _ rfl _ _ (fun w h=>h.1) Tryz.underlying28 rfl (by rw [lenm];exact sizeModelT)) hHeld ?_
 simp only [putS]
 refine tka 1 23 hHeld ?_;simp only [putS]
 refine' wpAnyH_take (i:=2) (oi:=⟨some 24,_,_,_,_,_⟩) (v:=_) rfl (by kernel_rfl) (by kernel_rfl) (by kernel_rfl) (fun _ _ _ h=>h) (yieldsIf_load_mid (by rfl) _ _ rfl _ _ rfl _ _ (fun w h=>h.2.2.2) Tryz.underlying37 rfl (by rw [lenF];exact sizeSpaceT)) hHeld ?_
 simp only [putS]
 refine tka 3 25 hHeld ?_;simp only [putS]
 refine tka 4 26 hHeld ?_;simp only [putS]
 refine rd 5 none fun K hK=>?_
 clear hHeld
 rw [if_pos (by rfl)]
 refine wp_store_mid 28 _ _ rfl w.heap.size 0 cm.toArray rfl rfl TH (by rw [hcz];exact sizeModelT) ON ?_
 rw [setCells_kit,List.toList_toArray,<- G1.out]
 refine hK.out _ _ (HSS.out _ q1) (fun hHeld=>?_)
 clear hK K
 try simp only [putS]
 refine rd 6 none fun K hK=>?_
 clear hHeld
 go_simp
 rw [<- G2.out]
 refine hK.out _ _ (HSS.out _ q2) (fun hHeld=>?_)
 clear hK K
 try simp only [putS]
 refine rd 7 none fun K hK=>?_
 clear hHeld
 rw [if_pos (by rfl)]
 refine wp_store_mid 37 _ _ rfl (w.heap.size+1+1) 0 csF.toArray rfl rfl TH2 (by rw [hcz5];exact sizeSpaceT) ON5 ?_
 rw [setCells_kit,List.toList_toArray,<- G3.out]
 refine hK.out _ _ (HSS.out _ q3) (fun hHeld=>?_)
 clear hK K
 try simp only [putS]
 refine tka 8 5 hHeld ?_;simp only [putS]
 refine tka 9 6 hHeld ?_;simp only [putS]
 refine wpAnyH_done (by kernel_rfl) ?_ _
 clear hHeld
 go_wp2
 refine bodyPost_ret (results_ccctt Tryz.results5 rfl rfl (RC.mk' rfl u0.rangeAt Tryz.underlying28 rfl (by rw [lenm];exact sizeModelT)) (RC.mk' rfl u1.rangeAt Tryz.underlying31 rfl sizeQuT) (RC.mk' rfl u2.rangeAt Tryz.underlying37 rfl (by rw [lenF];exact sizeSpaceT))) rfl ?_
 exact⟨m,cm,q,vc,Aq,nq,cq,s,csF,AF,nF,cF,lF,bv,rfl,D⟩
end Go.Proofs.YtblbnbfghlkkfaaGreat
