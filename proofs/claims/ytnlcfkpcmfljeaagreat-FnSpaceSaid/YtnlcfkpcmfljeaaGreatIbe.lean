/-
  Ibe
-/
import Derived.Test.YtnlcfkpcmfljeaaGreatItb
import Derived.Test.YtnlcfkpcmfljeaaGreatEpl
set_option linter.unusedSimpArgs false
set_option linter.unusedVariables false
set_option maxHeartbeats 12800000
set_option maxRecDepth 100000
namespace Go.Proofs.YtnlcfkpcmfljeaaGreat
open Go.RowKit
attribute [local go_sem ↓] Go.wp_at_zero Go.wp_at_succ
theorem mask_yes {l:List PlanEntryD}{m:Int}{k:Nat}{x:PlanEntryD}(h:l[k]?=some x) (hm:x.fMask=m):(l.take (k+1)).filter (onMask m)=(l.take k).filter (onMask m)++[x]:=by rw [take_snoc h,List.filter_append];simp [onMask,hm]
theorem mask_no {l:List PlanEntryD}{m:Int}{k:Nat}{x:PlanEntryD}(h:l[k]?=some x) (hm:¬ x.fMask=m):(l.take (k+1)).filter (onMask m)=(l.take k).filter (onMask m):=by rw [take_snoc h,List.filter_append];simp [onMask,hm]
theorem iBestEntry_c (A:Option Addr) (n c:Nat) (l:List PlanEntryD) (m:Int) (w:World) (hr:RS NB (rPlanEntry NB) w A n c l) :
  Calls Tryz.prog 141 #[.slice A n c,.int .i64 m] w (RetVB (rPlanEntry NB) ((bestE l m).getD zPlanEntry) (.bool (bestE l m).isSome) w):=by
 have hn:=hr.bound;obtain⟨w1,hw1⟩:∃ W,W=w.alloc (.cells #[.int .i64 0,.int .i64 0,.int .i64 0,.slice none 0 0] 107):=⟨_,rfl⟩;have b1:Below w.heap.size w w1:=by rw [hw1];exact bal
 have kR:Bk w1 w.heap.size 107 [.int .i64 0,.int .i64 0,.int .i64 0,.slice none 0 0]:=by rw [hw1];exact Bk.new w _ _
 obtain⟨w2,hw2⟩:∃ W,W=w1.alloc (.cells #[] 107):=⟨_,rfl⟩;have b2:Below w1.heap.size w1 w2:=by rw [hw2];exact bal
 have hs1:w1.heap.size=w.heap.size+1:=by rw [hw1];simp
 obtain⟨A0,hA0⟩:∃ A:Option Addr,A=some ⟨w.heap.size+1,0,none⟩:=⟨_,rfl⟩;have hP:PT (rPlanEntry NB) 107 0 A0 0 0 [] w2:=by rw [hw2,hA0,<- hs1];exact PT.new (Nat.zero_le _)
 have hG:∀ z∈blk A0,w1.heap.size<=z:=fun z hz=>by rw [hA0]at hz;simp [blk]at hz;omega
 have H1:=Lib.hid hw1;have H2:=Lib.hid hw2;have HA0:=Lib.hid hA0;have HS1:=Lib.hid hs1;clear hw1 hw2 hA0 hs1
 go_enter Tryz.func141,Tryz.ntmps141
 go_upto_region 2 with fail
 rw [<- H1.out,<- HA0.out,<- H2.out];clear H1 H2 HA0
 go_wp2_with fail
 go_loopw [6,13] (fun ov iv wr=>∃ (k n2 c2:Nat) (A2:Option Addr),k<=n/\n2<=k/\iv=.int .i64 (k:Int)/\ov=.slice A2 n2 c2/\PT (rPlanEntry NB) 107 0 A2 n2 c2 ((l.take k).filter (onMask m)) wr/\(∀ z∈blk A2,w1.heap.size<=z)/\Below w1.heap.size w1 wr) (fun _ iv _=>n - (intOf iv).toNat)
 case atStart=>exact⟨0,0,0,A0,by omega,by omega,rfl,rfl,by rw [List.take_zero];exact hP,hG,b2⟩
 case round =>
  clear hP hG b2;obtain⟨k,n2,c2,A2,hk,hn2,rfl,rfl,P,G,hb⟩:=hrel;have B:=b1.trans (hb.mono b1.size);by_cases hlt:k<n
  ·obtain⟨be,oe,x,AE,nE,cE,rfl,c0,c1,c2',c3,i0,i1,i2,rE,hx⟩:=hr.ePlanEntry hlt
   have rx:(rPlanEntry NB).rep w [.int .i64 x.fMask,.int .i64 x.fOrder,.int .i64 x.fCost,.slice AE nE cE] x:=rPlanEntry_rep.2 ⟨AE,nE,cE,rfl,i0,i1,i2,rE⟩;replace c0:=cells_below B _ _ c0;replace c1:=cells_below B _ _ c1;replace c2':=cells_below B _ _ c2';replace c3:=cells_below B _ _ c3;have hkI:(k:Int)<n:=by omega
   obtain⟨wn,hwn⟩:∃ W,W=wr.alloc (.cells #[.int .i64 x.fMask,.int .i64 x.fOrder,.int .i64 x.fCost,.slice AE nE cE] 107):=⟨_,rfl⟩;have bn:Below wr.heap.size wr wn:=by rw [hwn];exact bal
   obtain⟨gE,hgE⟩:∃ g,g=wr.heap.size:=⟨_,rfl⟩;have kE:Bk wn gE 107 [.int .i64 x.fMask,.int .i64 x.fOrder,.int .i64 x.fCost,.slice AE nE cE]:=by rw [hwn,hgE];exact Bk.new wr _ _
   have hbn:=hb.trans (bn.mono hb.size);have Pn:=P.below (rPlanEntry_ok NB) bn;have Hn:=Lib.hid hwn;have HGn:=Lib.hid hgE;clear hwn hgE
   go_upto_region 5 with fail
   rw [<- Hn.out,<- HGn.out];clear Hn HGn c0 c1 c2' c3;have ⟨e0,f0,e1,f1,e2,f2,e3,f3⟩:=kE.r4;by_cases hm:x.fMask=m
   ·have hmd:(x.fMask==m)=true:=by simp [hm]
    have HF:=Lib.hid (mask_yes hx.out hm);have hA1:=(Below.refl wn.heap.size wn).alloc (Nat.le_refl _) (.cells #[.int .i64 x.fMask,.int .i64 x.fOrder,.int .i64 x.fCost,.slice AE nE cE] 107);have hw1s:=b1.size
    have hS:StS (rPlanEntry NB) (fun z=>z∈blk A2\/z<0) (wn.alloc (.cells #[.int .i64 x.fMask,.int .i64 x.fOrder,.int .i64 x.fCost,.slice AE nE cE] 107)) [.int .i64 x.fMask,.int .i64 x.fOrder,.int .i64 x.fCost,.slice AE nE cE] x :=
     StS.ofRep (rPlanEntry_ok NB) rx (b1.trans ((hbn.trans (hA1.mono hbn.size)).mono b1.size)) (fun z hz=>hz.elim (fun e=>by have:=G z e;omega) (fun e=>by omega))
    have hcn:=cells_new wn 107 [.int .i64 x.fMask,.int .i64 x.fOrder,.int .i64 x.fCost,.slice AE nE cE];clear hm
    go_wp2_with (at_builtin;go_loud (refine wpList_appK2 rfl _ _ 110 rfl _ 48 eiPlanEntry (rPlanEntry_ok NB) rfl Pn hA1 (Nat.zero_le _) ⟨wn.heap.size,0,none⟩ rfl _ _ hS hcn (by unfold NB;omega) (by omega) ?_;intro A' c' w' P' b' g' q'))
    go_roundw
    case rel=>exact⟨k+1,n2+1,c',A',by omega,by omega,by go_num,rfl,by rw [HF.out];exact P',fun z hz=>(q' z hz).elim (fun e=>G z e) (fun e=>Nat.le_trans (Nat.le_trans hbn.size hA1.size) e),below_app b' hbn hA1 g' G⟩
    case measure=>simp [intOf];omega
   ·have hmd:(x.fMask==m)=false:=by simp [hm]
    have HF:=Lib.hid (mask_no hx.out hm);clear hm;go_wp2;go_roundw
    case rel=>exact⟨k+1,n2,c2,A2,by omega,by omega,by go_num,rfl,by rw [HF.out];exact Pn,G,hbn⟩
    case measure=>simp [intOf];omega
  ·have hT:(l.take k).filter (onMask m)=l.filter (onMask m):=by rw [List.take_of_length_le (by rw [hr.len];omega)]
   rw [hT]at P;have hl:=P.len;have kR2:=kR.below hb;have ⟨z0,y0,z1,y1,z2,y2,z3,y3⟩:=kR2.r4;have hgw:w.heap.size<wr.heap.size:=kR2.lt;clear hT;by_cases h0:n2=0
   ·subst h0
    have HB:Hid (bestE l m=none):=by show _=_;unfold bestE;rw [List.eq_nil_of_length_eq_zero hl];rfl
    clear hl;go_wp2;have k9:=kR2.put4 (.int .i64 0) (.int .i64 0) (.int .i64 0) (.slice none 0 0);refine bodyPost_ret (v:=.tuple #[.agg #[.int .i64 0,.int .i64 0,.int .i64 0,.slice none 0 0],.bool false]) (results_cs Tryz.results141 rfl rfl k9.rangeAt Tryz.underlying107 rfl sizeEntT) rfl ?_;rw [HB.out];exact⟨_,[],rfl,zPlanEntry_own _,Fr.nil _,bls4 B (Nat.le_refl _) _ _ _ _⟩
   ·have h0d:((n2:Int)==0)=false:=by simp;omega
    have h0p:0<n2:=by omega
    clear h0
    go_wp2_with fail
    refine(iBestOf_c A2 n2 c2 _ wr (P.rs (rPlanEntry_ok NB)) h0p).mono ?_;rintro e w4 ⟨x,AX,nX,cX,rfl,hbx,rX,i0,i1,i2,hb4⟩;have HB:Hid (bestE l m=some x):=hbx;obtain⟨w5,hw5⟩:∃ W,W=w4.alloc (.cells #[.int .i64 x.fMask,.int .i64 x.fOrder,.int .i64 x.fCost,.slice AX nX cX] 107):=⟨_,rfl⟩;have b5:Below w4.heap.size w4 w5:=by rw [hw5];exact bal
    obtain⟨g9,hg9⟩:∃ g,g=w4.heap.size:=⟨_,rfl⟩;have k9:Bk w5 g9 107 [.int .i64 x.fMask,.int .i64 x.fOrder,.int .i64 x.fCost,.slice AX nX cX]:=by rw [hw5,hg9];exact Bk.new w4 _ _
    have b45:=hb4.trans (b5.mono hb4.size);have B5:=B.trans (b45.mono B.size);have kR5:=kR2.below b45;have hg9w:w.heap.size<g9:=by rw [hg9];have:=hb4.size;omega
    have H5:=Lib.hid hw5;have H9:=Lib.hid hg9;have rX5:=rX.below (rPlanStep_ok NB) b45;clear hw5 hg9 hbx z0 y0 z1 y1 z2 y2 z3 y3 kR2 b5 hb4
    go_upto_region 11 with fail
    rw [<- H5.out,<- H9.out];clear H5 H9;have x3:=k9.bx 3 _ rfl
    go_wp2_with fail
    refine(iCopyPlan_c _ x.fPlan w5 (rPlan_rep.2 ⟨AX,nX,cX,rfl,rX5⟩)).mono ?_;rintro e w6 ⟨cs6,fp6,rfl,o6,f6,hb6⟩;obtain⟨A6,n6,c6,fq6,rfl,rfl,o7⟩:=rPlan_own.1 o6;have k96:=k9.below hb6;have kR6:=kR5.below hb6;have B6:=B5.trans (hb6.mono B5.size);have hlt9:=k9.lt;have ⟨z0,y0,z1,y1,z2,y2,z3,y3⟩:=kR6.r4;have ⟨u0,v0,u1,v1,u2,v2,u3,v3⟩:=k96.r4;clear x3 rX5;go_wp2;have kR7:Bk (w6.setCell ⟨g9,3,none⟩ (.slice A6 n6 c6)) w.heap.size 107 [.int .i64 0,.int .i64 0,.int .i64 0,.slice none 0 0]:=(heap_setCell_other w6 ⟨g9,3,none⟩ w.heap.size _ (by simp only;omega)).trans kR6;have kR8:=kR7.put4 (.int .i64 x.fMask) (.int .i64 x.fOrder) (.int .i64 x.fCost) (.slice A6 n6 c6)
    refine bodyPost_ret (v:=.tuple #[.agg #[.int .i64 x.fMask,.int .i64 x.fOrder,.int .i64 x.fCost,.slice A6 n6 c6],.bool true]) (results_cs Tryz.results141 rfl rfl kR8.rangeAt Tryz.underlying107 rfl sizeEntT) rfl ?_;rw [HB.out];have B7:=B6.setCell (p:=⟨g9,3,none⟩) (by simp only;omega) (.slice A6 n6 c6);refine⟨_,_,rfl,rPlanEntry_own.2 ⟨A6,n6,c6,_,rfl,rfl,i0,i1,i2,o7.okeep (rPlanStep_ok NB) (fun z hz=>?_)⟩,f6.mono (by have:=B5.size;omega),bls4 B7 (Nat.le_refl _) _ _ _ _⟩;have hz1:=f6.ge z hz;exact(set4_ne (by omega) _ _ _ _).trans (heap_setCell_other w6 ⟨g9,3,none⟩ z _ (by simp only;omega))
theorem iOptimal_c (csm:List Value) (md:ModelD) (csq:List Value) (q:QueryD) (As:Option Addr) (ns cc:Nat) (s:List Int) (w:World)
  (hm:(rModel NB).rep w csm md) (hq:(rQuery NB).rep w csq q) (hs:RS NB rInt w As ns cc s) (hup:admitted md=true->isSizes q s=true->SortUp md s) :
  Calls Tryz.prog 66 #[.agg csm.toArray,.agg csq.toArray,.slice As ns cc] w (RetVB (rPlanEntry NB) ((optV md q s).getD zPlanEntry) (.bool (optV md q s).isSome) w):=by
 have lenm:=(rModel_ok NB).len hm;obtain⟨AA,nA,cA,rfl,hvc,hAt⟩:=rQuery_rep.1 hq;obtain⟨w1,hw1⟩:∃ W,W=w.alloc (.cells csm.toArray 46):=⟨_,rfl⟩;obtain⟨w2,hw2⟩:∃ W,W=w1.alloc (.cells #[.int .i64 q.fVariableCount,.slice AA nA cA] 50):=⟨_,rfl⟩;obtain⟨w3,hw3⟩:∃ W,W=w2.alloc (.cells #[.int .i64 0,.int .i64 0,.int .i64 0,.slice none 0 0] 107):=⟨_,rfl⟩;have hs1:w1.heap.size=w.heap.size+1:=by rw [hw1];simp
 have hs2:w2.heap.size=w.heap.size+1+1:=by rw [hw2];simp [hs1]
 have b1:Below w.heap.size w w1:=by rw [hw1];exact bal
 have b2:Below w1.heap.size w1 w2:=by rw [hw2];exact bal
 have b3:Below w2.heap.size w2 w3:=by rw [hw3];exact bal
 have kM:Bk w3 w.heap.size 46 csm:=Bk.below (w:=w2) (Bk.below (w:=w1) (by rw [hw1];exact Bk.new w _ _) b2) b3;have kQ:Bk w3 (w.heap.size+1) 50 [.int .i64 q.fVariableCount,.slice AA nA cA]:=Bk.below (w:=w2) (by rw [hw2,<- hs1];exact Bk.new w1 _ _) b3;have kR:Bk w3 (w.heap.size+1+1) 107 [.int .i64 0,.int .i64 0,.int .i64 0,.slice none 0 0]:=by rw [hw3,<- hs2];exact Bk.new w2 _ _
 have bb:Below w.heap.size w w3:=(b1.trans (b2.mono b1.size)).trans (b3.mono (by omega));have H1:=Lib.hid hw1;have H2:=Lib.hid hw2;have H3:=Lib.hid hw3;have hd0:Chg [w.heap.size+1+1] w3 w3.drew:=Chg.ofBelow (Below.refl _ _).drew _;have hgw:w.heap.size<=w.heap.size+1+1:=by omega
 have HSS:Hid (∀ w':World,Chg [w.heap.size+1+1] w3 w'->w'.rangeAt w.heap.size 0 csm/\w'.cell? ⟨w.heap.size+1,0,none⟩=some (.int .i64 q.fVariableCount)/\w'.cell? ⟨w.heap.size+1,1,none⟩=some (.slice AA nA cA)):=by
  show ∀ w':World,_->_;intro w' h;have km:Bk w' w.heap.size 46 csm:=(h.block _ kM.lt (by simp;omega)).trans kM;have kq:Bk w' (w.heap.size+1) 50 [.int .i64 q.fVariableCount,.slice AA nA cA]:=(h.block _ kQ.lt (by simp)).trans kQ;exact⟨km.rangeAt,kq.bx 0 _ rfl,kq.bx 1 _ rfl⟩
 clear hw1 hw2 hw3 hs1 hs2 b1 b2 b3
 go_enter Tryz.func66,Tryz.ntmps66
 go_upto_region 1 with fail
 rw [<- H1.out,<- H2.out,<- H3.out];clear H1 H2 H3;have hbd:=(Below.refl w3.heap.size w3).drew;have BD:=bb.trans (hbd.mono bb.size);refine hbg HSS.out hd0 (fun hH=>?_);refine ldm 0 8 (fun w h=>h.1) Tryz.underlying46 (by rw [lenm];exact sizeModelT) hH ?_;refine tq2 1 hH ?_;refine tq1 4 hH ?_;simp only [putS];refine rd 3 (some 11) fun K hK=>?_;clear hH;go_simp;refine(iPlanTable_c csm md _ q As ns cc s _ ((rModel_ok NB).keep hm (cells_below BD)) ((rQuery_ok NB).keep hq (cells_below BD)) (hs.below rInt_ok BD) hup).mono ?_;rintro e w4 ⟨A4,n4,c4,rfl,r4,hb4⟩;have hC1:Chg [w.heap.size+1+1] w3 w4:=hd0.trans (Chg.ofBelow hb4 _)
 go_wp2_with fail
 refine hK.out _ _ (HSS.out _ hC1) (fun hH=>?_);clear hK K
 try simp only [putS]
 have b34:=hbd.trans (hb4.mono hbd.size);have B4:=bb.trans (b34.mono bb.size);refine rd 5 (some 13) fun K hK=>?_;clear hH;go_simp;refine(iFullMask_c _ q _ ((rQuery_ok NB).keep hq (cells_below B4))).mono ?_;rintro e w5 ⟨rfl,hb5⟩;have hC2:Chg [w.heap.size+1+1] w3 w5:=hC1.trans (Chg.ofBelow hb5 _)
 go_wp2_with fail
 refine hK.out _ _ (HSS.out _ hC2) (fun hH=>?_);clear hK K
 try simp only [putS]
 refine rd 6 (some 14) fun K hK=>?_;clear hH;go_simp;refine(iBestEntry_c A4 n4 c4 _ (fullMask q) _ (r4.below (rPlanEntry_ok NB) hb5)).mono ?_;rintro e w6 ⟨cs6,fp6,rfl,o6,f6,hb6⟩;obtain⟨A6,n6,c6,fq6,rfl,rfl,i0,i1,i2,o7⟩:=rPlanEntry_own.1 o6;have hC3:Chg [w.heap.size+1+1] w3 w6:=hC2.trans (Chg.ofBelow hb6 _)
 go_wp2_with fail
 refine hK.out _ _ (HSS.out _ hC3) (fun hH=>?_);clear hK K
 try simp only [putS]
 have b36:=(b34.trans (hb5.mono b34.size)).trans (hb6.mono (Nat.le_trans b34.size hb5.size));have kR6:=kR.below b36;have B6:=bb.trans (b36.mono bb.size);have ⟨z0,y0,z1,y1,z2,y2,z3,y3⟩:=kR6.r4;have m0:(w.heap.size+1+1)∈[w.heap.size+1+1]:=List.mem_singleton.2 rfl;have hC4:Chg [w.heap.size+1+1] w3 (set4 w6 (w.heap.size+1+1) (.int .i64 ((bestE (tabV md q s) (fullMask q)).getD zPlanEntry).fMask) (.int .i64 ((bestE (tabV md q s) (fullMask q)).getD zPlanEntry).fOrder) (.int .i64 ((bestE (tabV md q s) (fullMask q)).getD zPlanEntry).fCost) (.slice A6 n6 c6)):=(((hC3.setCell m0 _ _).setCell m0 _ _).setCell m0 _ _).setCell m0 _ _
 refine tq2 7 hH ?_;simp only [putS];refine rd 9 none fun K hK=>?_;clear hH;go_simp;refine hK.out _ _ (HSS.out _ hC4) (fun hH=>?_);clear hK K
 try simp only [putS]
 refine tq1 10 hH ?_;simp only [putS];refine wpAnyH_done (by kernel_rfl) ?_ _;clear hH;go_wp2;have kR8:=kR6.put4 (.int .i64 ((bestE (tabV md q s) (fullMask q)).getD zPlanEntry).fMask) (.int .i64 ((bestE (tabV md q s) (fullMask q)).getD zPlanEntry).fOrder) (.int .i64 ((bestE (tabV md q s) (fullMask q)).getD zPlanEntry).fCost) (.slice A6 n6 c6);refine bodyPost_ret (v:=.tuple #[.agg #[.int .i64 ((bestE (tabV md q s) (fullMask q)).getD zPlanEntry).fMask,.int .i64 ((bestE (tabV md q s) (fullMask q)).getD zPlanEntry).fOrder,.int .i64 ((bestE (tabV md q s) (fullMask q)).getD zPlanEntry).fCost,.slice A6 n6 c6],.bool (bestE (tabV md q s) (fullMask q)).isSome]) (results_cs Tryz.results66 rfl rfl kR8.rangeAt Tryz.underlying107 rfl sizeEntT) rfl ?_
 have hlt:=kR.lt;have hs35:=Nat.le_trans b34.size hb5.size;refine⟨_,_,rfl,rPlanEntry_own.2 ⟨A6,n6,c6,_,rfl,rfl,i0,i1,i2,o7.okeep (rPlanStep_ok NB) (fun z hz=>?_)⟩,f6.mono (by have:=B6.size;have:=hb6.size;have:=bb.size;omega),bls4 B6 (by omega) _ _ _ _⟩;have hz1:=f6.ge z hz;exact set4_ne (by omega) _ _ _ _
def locsL (b:BoxD):List (List Int):=if 400<boxVol b then [] else (List.range (boxVol b).toNat).map (fun i:Nat=>(boxLoc b (i:Int)).1)
theorem locs_snoc (b:BoxD) (k:Nat):(List.range (k+1)).map (fun i:Nat=>(boxLoc b (i:Int)).1)=(List.range k).map (fun i:Nat=>(boxLoc b (i:Int)).1)++[(boxLoc b (k:Int)).1]:=by rw [List.range_succ,List.map_append];rfl
theorem eiRowI:Ei Tryz.prog 83 30 (.slice none 0 0) (rSlice NB 3 rInt).size 24:=⟨by kernel_rfl,by kernel_rfl,rfl⟩
theorem iLocations_c (csb:List Value) (b:BoxD) (w:World) (hb:(rBox NB).rep w csb b) :
  Calls Tryz.prog 61 #[.agg csb.toArray] w (RetS 30 (rSlice NB 3 rInt) (locsL b) w):=by
 have rb:=hb;obtain⟨AbLow,nbLow,cbLow,AbHigh,nbHigh,cbHigh,rfl,hbLow,hbHigh⟩:=rBox_rep.1 hb;clear hb;obtain⟨hB,bxb⟩:=op1 w [.slice AbLow nbLow cbLow,.slice AbHigh nbHigh cbHigh] 36
 go_enter Tryz.func61,Tryz.ntmps61
 have kb_0:=bxb 0 _ rfl;have kb_1:=bxb 1 _ rfl
 go_wp2_with fail
 refine(iBoxVolume_c _ b _ ((rBox_ok NB).keep rb (cells_below hB))).mono ?_;rintro e w1 ⟨rfl,hb1⟩;replace hB:=hB.trans (hb1.mono hB.size);replace bxb:=bxb.below hb1;clear hb1 kb_0 kb_1;obtain⟨V,hV⟩:∃ v,boxVol b=v:=⟨_,rfl⟩;have HV:=Lib.hid hV;rw [hV];clear hV;rename World=>wz;by_cases hgt:400<V
 ·have hd:decide (400<V)=true:=decide_eq_true hgt
  have HL:Hid (locsL b=[]):=by show _=_;unfold locsL;rw [HV.out,if_pos hgt]
  have hM0:=MS.nil (B:=w.heap.size) (M:=NB) (e:=30) (r:=rSlice NB 3 rInt) wz (Nat.zero_le _);go_wp2;go_ret;exact⟨_,_,_,rfl,by rw [HL.out];exact hM0,hB⟩
 have hd:decide (400<V)=false:=decide_eq_false hgt;have hz0:w.heap.size+1<=wz.heap.size:=Nat.succ_le_of_lt (World.block_lt_of_cell? _ _ (bxb 0 _ rfl));have hM:=MS.empty (B:=w.heap.size+1) (M:=NB) (e:=30) (r:=rSlice NB 3 rInt) wz hz0;have hb0:=(Below.refl _ wz).alloc (Nat.le_refl _) (.cells #[] 30);have HL:Hid (locsL b=(List.range V.toNat).map (fun i:Nat=>(boxLoc b (i:Int)).1)):=by show _=_;unfold locsL;rw [HV.out,if_neg hgt]
 replace hB:=hB.trans (hb0.mono hB.size);replace bxb:=bxb.below hb0;clear hb0
 go_wp2_with fail
 go_loopw [4,5] (fun s i wr=>∃ (k n c:Nat) (A:Option Addr),k<=V.toNat/\n=k/\i=.int .i64 (k:Int)/\s=.slice A n c/\MS (w.heap.size+1) NB 30 (rSlice NB 3 rInt) wr A n c ((List.range k).map (fun i:Nat=>(boxLoc b (i:Int)).1))/\Below w.heap.size w wr/\Bx wr w.heap.size [.slice AbLow nbLow cbLow,.slice AbHigh nbHigh cbHigh]) (fun _ i _=>(V - intOf i).toNat)
 case atStart=>exact⟨0,0,0,_,by omega,rfl,rfl,rfl,hM,hB,bxb⟩
 case round =>
  clear hB bxb hM;obtain⟨k,n,c,A,hk,rfl,rfl,rfl,hM,hB,bxb⟩:=hrel;have kb_0:=bxb 0 _ rfl;have kb_1:=bxb 1 _ rfl;have hz:=Nat.succ_le_of_lt (World.block_lt_of_cell? _ _ (bxb 0 _ rfl));by_cases hlt:(n:Int)<V
  ·have hn400:n<400:=by omega
   go_wp2_with fail
   refine(iBoxLocation_c _ b (n:Int) _ ((rBox_ok NB).keep rb (cells_below hB)) ⟨by omega,by omega⟩).mono ?_;rintro e w9 ⟨A9,n9,c9,rfl,m9,hb9⟩;obtain⟨f9,o9,fr9⟩:=m9;have hS:=Lib.hid (locs_snoc b n)
   go_wp2_with (at_builtin;go_loud (refine wpList_app (r:=rSlice NB 3 rInt) rfl _ _ 83 rfl _ 24 eiRowI (rSlice_ok NB _ rInt_ok) rfl hM (hb9.alloc hb9.size _) hz ⟨_,0,none⟩ rfl f9 [.slice A9 n9 c9] _ ((rSlice_ok NB _ rInt_ok).ownB ⟨A9,n9,c9,rfl,o9⟩ (bal)) fr9 (cell_one_new _ _ _) (by unfold NB;omega) (Nat.le_refl _) (by omega) ?_;intro A8 k8 w8 hM8 hb8 hg8))
   go_roundw
   case rel=>exact⟨n+1,n+1,k8,A8,by omega,rfl,by go_num,rfl,by rw [hS.out];exact hM8,(hB.trans ((hb9.alloc hb9.size _).mono hB.size)).trans (hb8.mono (Nat.le_succ _)),(bxb.below (hb9.alloc hb9.size _)).lowJ (Nat.lt_succ_self _) hb8⟩
   case measure=>simp [intOf];omega
  ·have hk4:n=V.toNat:=by omega
   subst hk4;go_wp2;go_ret;exact⟨_,_,_,rfl,by rw [HL.out];exact hM.base (Nat.le_succ _),hB⟩
end Go.Proofs.YtnlcfkpcmfljeaaGreat
namespace Go.Proofs.YtnlcfkpcmfljeaaGreat
open Go.RowKit
attribute [local go_sem ↓] Go.wp_at_zero Go.wp_at_succ
theorem iIsConnN_c (csx:List Value) (x:QueryD) (m:Int) (w:World) (hx:(rQuery NB).rep w csx x) (h0:validQ x=false) :
  Calls Tryz.prog 63 #[.agg csx.toArray,.int .i64 m] w fun e w'=>e=.returned (.bool (isConn x m))/\Below w.heap.size w w':=by
 have rx:=hx;obtain⟨Ax_e,nx_e,cx_e,rfl,hx_p5,hx_e⟩:=rQuery_rep.1 hx;clear hx;obtain⟨hB,bxx⟩:=op1 w [.int .i64 x.fVariableCount,.slice Ax_e nx_e cx_e] 50
 go_enter Tryz.func63,Tryz.ntmps63
 have kx_0:=bxx 0 _ rfl;have kx_1:=bxx 1 _ rfl
 go_wp2_with fail
 refine(iMaskOk_c _ x m _ ((rQuery_ok NB).keep rx (cells_below hB))).mono ?_;rintro e w1 ⟨rfl,hb1⟩;replace hB:=hB.trans (hb1.mono hB.size);replace bxx:=bxx.below hb1;clear hb1 kx_0 kx_1;have hm:maskOk x m=false:=by simp [maskOk,h0]
 have HI:Hid (isConn x m=false):=by show _=_;unfold isConn;rw [hm];rfl
 go_wp2;go_ret;exact⟨ret_bool (a:=false) HI.out.symm,hB⟩
theorem iIsConnF_c (csx:List Value) (x:QueryD) (w:World) (hx:(rQuery NB).rep w csx x):Calls Tryz.prog 63 #[.agg csx.toArray,.int .i64 (fullMask x)] w (fun e w'=>e=.returned (.bool (isConn x (fullMask x)))/\Below w.heap.size w w'):=by
 cases h:validQ x with
 | false=>exact iIsConnN_c csx x (fullMask x) w hx h
 | true =>
  refine iIsConnected_c csx x (fullMask x) w hx ?_;have hp:=validQ_parts h;unfold fullMask;rw [if_pos h];have:(2:Nat) ^ 1<=2 ^ x.fAtoms.length:=Nat.pow_le_pow_right (by omega) (by omega);omega
theorem locs_len (b:BoxD):(locsL b).length=if 400<boxVol b then 0 else (boxVol b).toNat:=by
 unfold locsL;split<;>simp
theorem locs_some (b:BoxD):decide (0<(locsL b).length)=inR (boxVol b) 1 400:=by
 rw [locs_len];cases h:inR (boxVol b) 1 400 with
 | true =>
  have:=inR_t.1 h;rw [if_neg (by omega),decide_eq_true_eq];omega
 | false =>
  rw [decide_eq_false_iff_not];intro h2
  have:inR (boxVol b) 1 400=true:=by
   split at h2
   ·omega
   ·exact inR_t.2 (by omega)
  rw [h]at this;cases this
theorem isSizes_locI {q:QueryD}{l:List Int}(hq:validQ q=true) (hl:isLoc l=true) (hn:(l.length:Int)=fullMask q+1):isSizes q (locSizes l)=true:=by
 unfold isSizes locSizes;rw [hq,hl,if_pos rfl];simp only [Bool.true_and,Bool.and_eq_true,decide_eq_true_eq,List.length_map,List.all_eq_true];refine⟨hn,fun n hx=>?_⟩;obtain⟨c,hc,rfl⟩:=List.mem_map.1 hx;have h:=(isLoc_at hl).2;unfold isLoc at hl;simp only [Bool.and_eq_true,List.all_eq_true]at hl;have:=inR_t.1 (hl.1 c hc);exact inR_t.2 (clsSize_bd this.1 this.2)
theorem iBsFn_c (x p:PlanD) (g:Nat) (Ax Ap:Option Addr) (nx cx np cp:Nat) (w:World) (hx:RS NB (rPlanStep NB) w Ax nx cx x.fSteps) (hc:w.cell? ⟨g,3,none⟩=some (.slice Ap np cp)) (hp:RS NB (rPlanStep NB) w Ap np cp p.fSteps) :
  Calls Tryz.prog 69 #[.agg #[.slice Ax nx cx],.pointer (some ⟨g,0,none⟩)] w fun e w'=>e=.returned (.bool (decide (x=p)))/\Below w.heap.size w w':=by
 have hA:=(Below.refl w.heap.size w).alloc (Nat.le_refl _) (.cells #[.slice Ax nx cx] 76);have bx:=Bx.new w [.slice Ax nx cx] 76;have k0:=bx 0 _ rfl;have hc2:=cells_below hA _ _ hc;have hx2:=hx.below (rPlanStep_ok NB) hA;have hp2:=hp.below (rPlanStep_ok NB) hA
 go_enter Tryz.func69,Tryz.ntmps69
 go_wp2_with fail
 refine(iEqualPlans_c _ x _ p _ (rPlan_rep.2 ⟨Ax,nx,cx,rfl,hx2⟩) (rPlan_rep.2 ⟨Ap,np,cp,rfl,hp2⟩)).mono ?_;rintro e w1 ⟨rfl,hb1⟩;go_wp2;go_ret;exact⟨rfl,hA.trans (hb1.mono hA.size)⟩
theorem iBsIdx_c (A:Option Addr) (n cap:Nat) (l:List PlanD) (g:Nat) (p:PlanD) (Ap:Option Addr) (np cp:Nat) (w:World) (hr:RS NB (rPlan NB) w A n cap l) (hc:w.cell? ⟨g,3,none⟩=some (.slice Ap np cp)) (hp:RS NB (rPlanStep NB) w Ap np cp p.fSteps) :
  Calls Tryz.prog 68 #[.slice A n cap,.func (.func 69) #[] #[.pointer (some ⟨g,0,none⟩)]] w fun e w'=>e=.returned (.int .i64 (knownP p l 0))/\Below w.heap.size w w':=by
 have hn:=hr.bound
 go_enter Tryz.func68,Tryz.ntmps68
 go_wp2
 go_loopw [8] (fun i wr=>∃ k:Nat,k<=n/\i=.int .i64 k/\Hid (knownP p l 0=knownP p (l.drop k) k)/\Below w.heap.size w wr) (fun i _=>n - (intOf i).toNat)
 case atStart=>exact⟨0,Nat.zero_le _,rfl,Lib.hid rfl,Below.refl _ _⟩
 case round =>
  obtain⟨k,hk,rfl,hall,hb⟩:=hrel;by_cases hlt:k<n
  ·obtain⟨b,off,x,cs,rfl,hrep,hcl,hx⟩:=(hr.below (rPlan_ok NB) hb).at_ hlt
   obtain⟨AX,nX,cX,rfl,rX⟩:=rPlan_rep.1 hrep;have c0:wr.cell? ⟨b,off+k,none⟩=some (.slice AX nX cX):=by have:=hcl 0 _ rfl;simpa [rPlan,rIso,rSlice]using this
   have hg:=cells_below hb _ _ hc;have hp2:=hp.below (rPlanStep_ok NB) hb;clear hcl hrep;by_cases hx2:x=p
   ·have HK:=Lib.hid (knownP_yes hx.out hx2)
    have hd:decide (x=p)=true:=decide_eq_true hx2;have KF:=Lib.hid (iBsFn_c x p g AX Ap nX cX np cp wr rX hg hp2);clear hx2
    go_wp2_with (go_at_call 69;refine KF.out.mono ?_;rintro e w1 ⟨he,hb1⟩;rw [hd]at he;subst he)
    go_ret;exact⟨ret_int (by rw [hall.out];exact HK.out.symm),hb.trans (hb1.mono hb.size)⟩
   ·have HK:=Lib.hid (knownP_no hx.out hx2)
    have hd:decide (x=p)=false:=decide_eq_false hx2;have KF:=Lib.hid (iBsFn_c x p g AX Ap nX cX np cp wr rX hg hp2);clear hx2
    go_wp2_with (go_at_call 69;refine KF.out.mono ?_;rintro e w1 ⟨he,hb1⟩;rw [hd]at he;subst he)
    go_roundw
    case rel=>exact⟨k+1,by omega,by go_num,Lib.hid (hall.out.trans HK.out),hb.trans (hb1.mono hb.size)⟩
    case measure=>simp [intOf];omega
  ·have HK:Hid (knownP p l 0=-1):=by show _=_;rw [hall.out,List.drop_of_length_le (by rw [hr.len];omega)];rfl
   go_wp2;go_ret;exact⟨ret_int (a:=-1) HK.out.symm,hb⟩
end Go.Proofs.YtnlcfkpcmfljeaaGreat
namespace Go.Proofs.YtnlcfkpcmfljeaaGreat
open Go.RowKit
attribute [local go_sem ↓] Go.wp_at_zero Go.wp_at_succ
theorem iBuildSpace_c (csm:List Value) (m:ModelD) (csq:List Value) (q:QueryD) (csb:List Value) (b:BoxD) (w:World) (hm:(rModel NB).rep w csm m) (hq:(rQuery NB).rep w csq q) (hb:(rBox NB).rep w csb b) :
  Calls Tryz.prog 14 #[.agg csm.toArray,.agg csq.toArray,.agg csb.toArray] w (RetVB (rSpace NB) (buildE m q b).1 (.bool (buildE m q b).2) w):=by
 have rm:=hm;have lenm:=(rModel_ok NB).len hm;clear hm;have rq:=hq;obtain⟨Aq_e,nq_e,cq_e,rfl,hq_p5,hq_e⟩:=rQuery_rep.1 hq;clear hq;have rb:=hb;obtain⟨AbLow,nbLow,cbLow,AbHigh,nbHigh,cbHigh,rfl,hbLow,hbHigh⟩:=rBox_rep.1 hb;clear hb;obtain⟨hB,bxm,bxq,bxb⟩:=op3 w csm 46 [.int .i64 q.fVariableCount,.slice Aq_e nq_e cq_e] 50 [.slice AbLow nbLow cbLow,.slice AbHigh nbHigh cbHigh] 36;have lenm':csm.length=30:=lenm;clear lenm;obtain⟨wA,hwA⟩:∃ W,W=((w.alloc (.cells csm.toArray 46)).alloc (.cells #[.int .i64 q.fVariableCount,.slice Aq_e nq_e cq_e] 50)).alloc (.cells #[.slice AbLow nbLow cbLow,.slice AbHigh nbHigh cbHigh] 36):=⟨_,rfl⟩
 rw [<- hwA]at hB bxm bxq bxb;have hsA:wA.heap.size=w.heap.size+1+1+1:=by rw [hwA];simp
 obtain⟨wB,hwB⟩:∃ W,W=wA.alloc (.cells #[.slice none 0 0,.slice none 0 0,.slice none 0 0,.slice none 0 0,.slice none 0 0] 39):=⟨_,rfl⟩;have hb_wB:Below wA.heap.size wA wB:=by rw [hwB];exact(Below.refl wA.heap.size wA).alloc (Nat.le_refl _) _
 replace hB:=hB.trans (hb_wB.mono hB.size);replace bxm:=bxm.below hb_wB;replace bxq:=bxq.below hb_wB;replace bxb:=bxb.below hb_wB;clear hb_wB;have kR:Bk wB wA.heap.size 39 [.slice none 0 0,.slice none 0 0,.slice none 0 0,.slice none 0 0,.slice none 0 0]:=by rw [hwB];exact Bk.new wA _ _
 rw [hsA]at kR;have HLb:=Lib.hid hbLow.len;have hnbl:=hbLow.bound
 go_enter Tryz.func14,Tryz.ntmps14
 go_upto_region 1 with fail
 rw [<- hwA,<- hwB];clear hwA hwB hsA;have kb_0:=bxb 0 _ rfl;have kb_1:=bxb 1 _ rfl
 go_wp2_with fail
 refine(iLocations_c _ b _ ((rBox_ok NB).keep rb (cells_below hB))).mono ?_;rintro e w1 ⟨Al,nl,cl,rfl,mL0,hb1⟩;replace hB:=hB.trans (hb1.mono hB.size);replace bxm:=bxm.below hb1;replace bxq:=bxq.below hb1;replace bxb:=bxb.below hb1;replace kR:=kR.below hb1;clear hb1 kb_0 kb_1;rename World=>wL;have rL0:=mL0.rs (rSlice_ok NB _ rInt_ok);have hnl:(locsL b).length=nl:=rL0.len;clear mL0;obtain⟨v1,hv1⟩:∃ v,admitted m=v:=⟨_,rfl⟩;obtain⟨F,hF⟩:∃ v,fullMask q=v:=⟨_,rfl⟩;obtain⟨v2,hv2⟩:∃ v,isConn q F=v:=⟨_,rfl⟩;obtain⟨V,hV⟩:∃ v,boxVol b=v:=⟨_,rfl⟩;obtain⟨v3,hv3⟩:∃ v,inR V 1 400=v:=⟨_,rfl⟩;have hl3:decide (0<nl)=v3:=by have:=locs_some b;rw [hnl,hV,hv3]at this;exact this
 have hl4:((nl:Int)==0)=!v3:=by
  rw [<- hl3];by_cases h:nl=0
  ·subst h;rfl
  ·have h1:decide (0<nl)=true:=decide_eq_true (by omega)
   rw [h1];simp;omega
 have HL3:=Lib.hid hl3;clear hl3;have hF15:-1<=F/\F<=15:=by rw [<- hF];exact⟨by unfold fullMask;split<;>(have:=Nat.one_le_two_pow (n:=q.fAtoms.length);omega),fm15 q⟩
 have hwr:IntKind.i64.wrap (F+1)=F+1:=IntWalk.i64_in _ (by omega);obtain⟨v4,hv4⟩:∃ v,((nbLow:Int) != F+1)=v:=⟨_,rfl⟩
 have HCB:Hid (canBuild m q b=(v1&&(v2&&(v3&&!v4)))):=by
  show _=_;unfold canBuild;rw [hv1,hF,hv2,hV,hv3,HLb.out,<- hv4];congr 3;by_cases h:(nbLow:Int)=F+1
  ·simp [h]
  ·simp [h]
 have HF:=Lib.hid hF;have HV:=Lib.hid hV;have HV4:=Lib.hid hv4
 have KA:Hid (∀ W,Below wL.heap.size wL W->Calls Tryz.prog 62 #[.agg csm.toArray] W fun e w'=>e=.returned (.bool v1)/\Below W.heap.size W w'):=by
  show ∀ W,_->_;intro W hW;rw [<- hv1];exact iIsAdmitted_c csm m W ((rModel_ok NB).keep rm (cells_below (hB.trans (hW.mono hB.size))))
 have KF:Hid (∀ W,Below wL.heap.size wL W->Calls Tryz.prog 64 #[.agg #[.int .i64 q.fVariableCount,.slice Aq_e nq_e cq_e]] W fun e w'=>e=.returned (.int .i64 F)/\Below W.heap.size W w'):=by
  show ∀ W,_->_;intro W hW;rw [<- hF];exact iFullMask_c _ q W ((rQuery_ok NB).keep rq (cells_below (hB.trans (hW.mono hB.size))))
 have KC:Hid (∀ W,Below wL.heap.size wL W->Calls Tryz.prog 63 #[.agg #[.int .i64 q.fVariableCount,.slice Aq_e nq_e cq_e],.int .i64 F] W fun e w'=>e=.returned (.bool v2)/\Below W.heap.size W w'):=by
  show ∀ W,_->_;intro W hW;rw [<- hv2,<- hF];exact iIsConnF_c _ q W ((rQuery_ok NB).keep rq (cells_below (hB.trans (hW.mono hB.size))))
 have HSS:Hid (∀ w',Below wL.heap.size wL w'->(w'.rangeAt w.heap.size 0 csm/\w'.cell? ⟨w.heap.size+1,0,none⟩=some (.int .i64 q.fVariableCount)/\w'.cell? ⟨w.heap.size+1,1,none⟩=some (.slice Aq_e nq_e cq_e)/\w'.cell? ⟨w.heap.size+1+1,0,none⟩=some (.slice AbLow nbLow cbLow)/\w'.cell? ⟨w.heap.size+1+1,1,none⟩=some (.slice AbHigh nbHigh cbHigh))):=by
  show ∀ w',_->_;intro w' hb;exact⟨(bxm.below hb).range,(bxq.below hb) 0 _ rfl,(bxq.below hb) 1 _ rfl,(bxb.below hb) 0 _ rfl,(bxb.below hb) 1 _ rfl⟩
 clear hF hV hv1 hv2 hv3
 go_upto_region 2 with fail
 cases v1
 ·refine hbg HSS.out (Below.refl _ _).drew (fun hH=>?_)
  refine ldm 0 17 (fun w h=>h.1) Tryz.underlying46 (by rw [lenm'];exact sizeModelT) hH ?_;simp only [putS];refine rd 1 (some 18) fun K hK=>?_;clear hH;go_simp;refine(KA.out _ (Below.refl _ _).drew).mono ?_;rintro e w2 ⟨rfl,hb2⟩;have hC1:Below wL.heap.size wL w2:=(Below.refl wL.heap.size wL).drew.trans (hb2.mono (by simp))
  go_wp2_with fail
  refine hK.out _ _ (HSS.out _ hC1) (fun hH=>?_);clear hK K
  try simp only [putS]
  refine tq2 2 hH ?_;simp only [putS];refine tr4 4 hH ?_;simp only [putS];refine tr1 8 hH ?_;refine tq2 9 hH ?_;simp only [putS];refine tr2 11 hH ?_;refine tr1 13 hH ?_;simp only [putS];refine tq2 14 hH ?_;simp only [putS];refine tr4 16 hH ?_;simp only [putS];refine tr2 20 hH ?_;refine tr1 22 hH ?_;refine tq1 23 hH ?_;simp only [putS];refine wpAnyH_done (by kernel_rfl) ?_ _;clear hH;have HN:Hid (buildE m q b=(zSpace,false)):=by show _=_;unfold buildE;rw [HCB.out];rfl
  have kR2:=kR.below hC1;have hB2:=hB.trans (hC1.mono hB.size);have ⟨z0,y0,z1,y1,z2,y2,z3,y3,z4,y4⟩:=kR2.r5;go_wp2;have k9:=kR2.set5 (.slice none 0 0) (.slice none 0 0) (.slice none 0 0) (.slice none 0 0) (.slice none 0 0);refine bodyPost_ret (v:=.tuple #[.agg #[.slice none 0 0,.slice none 0 0,.slice none 0 0,.slice none 0 0,.slice none 0 0],.bool false]) (results_cs Tryz.results14 rfl rfl k9.rangeAt Tryz.underlying39 rfl sizeSpaceT) rfl ?_;rw [HN.out];exact⟨_,[],rfl,zSpace_own _,Fr.nil _,bls5 hB2 (by omega) _ _ _ _ _⟩
 cases v2
 ·refine hbg HSS.out (Below.refl _ _).drew (fun hH=>?_)
  refine ldm 0 17 (fun w h=>h.1) Tryz.underlying46 (by rw [lenm'];exact sizeModelT) hH ?_;simp only [putS];refine rd 1 (some 18) fun K hK=>?_;clear hH;go_simp;refine(KA.out _ (Below.refl _ _).drew).mono ?_;rintro e w2 ⟨rfl,hb2⟩;have hC1:Below wL.heap.size wL w2:=(Below.refl wL.heap.size wL).drew.trans (hb2.mono (by simp))
  go_wp2_with fail
  refine hK.out _ _ (HSS.out _ hC1) (fun hH=>?_);clear hK K
  try simp only [putS]
  refine tq4 2 hH ?_;simp only [putS];refine rd 6 (some 23) fun K hK=>?_;clear hH;go_simp;refine(KF.out _ hC1).mono ?_;rintro e w3 ⟨rfl,hb3⟩;have hC2:Below wL.heap.size wL w3:=hC1.trans (hb3.mono hC1.size)
  go_wp2_with fail
  refine hK.out _ _ (HSS.out _ hC2) (fun hH=>?_);clear hK K
  try simp only [putS]
  refine rd 7 (some 24) fun K hK=>?_;clear hH;go_simp;refine(KC.out _ hC2).mono ?_;rintro e w4 ⟨rfl,hb4⟩;have hC3:Below wL.heap.size wL w4:=hC2.trans (hb4.mono hC2.size)
  go_wp2_with fail
  refine hK.out _ _ (HSS.out _ hC3) (fun hH=>?_);clear hK K
  try simp only [putS]
  refine tq2 8 hH ?_;refine tq1 10 hH ?_;simp only [putS];refine tr2 11 hH ?_;refine tr1 13 hH ?_;simp only [putS];refine tq2 14 hH ?_;simp only [putS];refine tr4 16 hH ?_;simp only [putS];refine tr2 20 hH ?_;refine tr1 22 hH ?_;refine tq1 23 hH ?_;simp only [putS];refine wpAnyH_done (by kernel_rfl) ?_ _;clear hH;have HN:Hid (buildE m q b=(zSpace,false)):=by show _=_;unfold buildE;rw [HCB.out];rfl
  have kR2:=kR.below hC3;have hB2:=hB.trans (hC3.mono hB.size);have ⟨z0,y0,z1,y1,z2,y2,z3,y3,z4,y4⟩:=kR2.r5;go_wp2;have k9:=kR2.set5 (.slice none 0 0) (.slice none 0 0) (.slice none 0 0) (.slice none 0 0) (.slice none 0 0);refine bodyPost_ret (v:=.tuple #[.agg #[.slice none 0 0,.slice none 0 0,.slice none 0 0,.slice none 0 0,.slice none 0 0],.bool false]) (results_cs Tryz.results14 rfl rfl k9.rangeAt Tryz.underlying39 rfl sizeSpaceT) rfl ?_;rw [HN.out];exact⟨_,[],rfl,zSpace_own _,Fr.nil _,bls5 hB2 (by omega) _ _ _ _ _⟩
 cases v3
 ·refine hbg HSS.out (Below.refl _ _).drew (fun hH=>?_)
  refine ldm 0 17 (fun w h=>h.1) Tryz.underlying46 (by rw [lenm'];exact sizeModelT) hH ?_;simp only [putS];refine rd 1 (some 18) fun K hK=>?_;clear hH;go_simp;refine(KA.out _ (Below.refl _ _).drew).mono ?_;rintro e w2 ⟨rfl,hb2⟩;have hC1:Below wL.heap.size wL w2:=(Below.refl wL.heap.size wL).drew.trans (hb2.mono (by simp))
  go_wp2_with fail
  refine hK.out _ _ (HSS.out _ hC1) (fun hH=>?_);clear hK K
  try simp only [putS]
  refine tq4 2 hH ?_;simp only [putS];refine rd 6 (some 23) fun K hK=>?_;clear hH;go_simp;refine(KF.out _ hC1).mono ?_;rintro e w3 ⟨rfl,hb3⟩;have hC2:Below wL.heap.size wL w3:=hC1.trans (hb3.mono hC1.size)
  go_wp2_with fail
  refine hK.out _ _ (HSS.out _ hC2) (fun hH=>?_);clear hK K
  try simp only [putS]
  refine rd 7 (some 24) fun K hK=>?_;clear hH;go_simp;refine(KC.out _ hC2).mono ?_;rintro e w4 ⟨rfl,hb4⟩;have hC3:Below wL.heap.size wL w4:=hC2.trans (hb4.mono hC2.size)
  go_wp2_with fail
  refine hK.out _ _ (HSS.out _ hC3) (fun hH=>?_);clear hK K
  try simp only [putS]
  refine tq4 8 hH ?_;simp only [putS];refine tq4 12 hH ?_;simp only [putS];refine tr4 16 hH ?_;simp only [putS];refine tr2 20 hH ?_;refine tr1 22 hH ?_;refine tq1 23 hH ?_;simp only [putS];refine wpAnyH_done (by kernel_rfl) ?_ _;clear hH;have HN:Hid (buildE m q b=(zSpace,false)):=by show _=_;unfold buildE;rw [HCB.out];rfl
  have kR2:=kR.below hC3;have hB2:=hB.trans (hC3.mono hB.size);have ⟨z0,y0,z1,y1,z2,y2,z3,y3,z4,y4⟩:=kR2.r5;go_wp2;have k9:=kR2.set5 (.slice none 0 0) (.slice none 0 0) (.slice none 0 0) (.slice none 0 0) (.slice none 0 0);refine bodyPost_ret (v:=.tuple #[.agg #[.slice none 0 0,.slice none 0 0,.slice none 0 0,.slice none 0 0,.slice none 0 0],.bool false]) (results_cs Tryz.results14 rfl rfl k9.rangeAt Tryz.underlying39 rfl sizeSpaceT) rfl ?_;rw [HN.out];exact⟨_,[],rfl,zSpace_own _,Fr.nil _,bls5 hB2 (by omega) _ _ _ _ _⟩
 refine hbg HSS.out (Below.refl _ _).drew (fun hH=>?_);refine ldm 0 17 (fun w h=>h.1) Tryz.underlying46 (by rw [lenm'];exact sizeModelT) hH ?_;simp only [putS];refine rd 1 (some 18) fun K hK=>?_;clear hH;go_simp;refine(KA.out _ (Below.refl _ _).drew).mono ?_;rintro e w2 ⟨rfl,hb2⟩;have hC1:Below wL.heap.size wL w2:=(Below.refl wL.heap.size wL).drew.trans (hb2.mono (by simp))
 go_wp2_with fail
 refine hK.out _ _ (HSS.out _ hC1) (fun hH=>?_);clear hK K
 try simp only [putS]
 refine tq4 2 hH ?_;simp only [putS];refine rd 6 (some 23) fun K hK=>?_;clear hH;go_simp;refine(KF.out _ hC1).mono ?_;rintro e w3 ⟨rfl,hb3⟩;have hC2:Below wL.heap.size wL w3:=hC1.trans (hb3.mono hC1.size)
 go_wp2_with fail
 refine hK.out _ _ (HSS.out _ hC2) (fun hH=>?_);clear hK K
 try simp only [putS]
 refine rd 7 (some 24) fun K hK=>?_;clear hH;go_simp;refine(KC.out _ hC2).mono ?_;rintro e w4 ⟨rfl,hb4⟩;have hC3:Below wL.heap.size wL w4:=hC2.trans (hb4.mono hC2.size)
 go_wp2_with fail
 refine hK.out _ _ (HSS.out _ hC3) (fun hH=>?_);clear hK K
 try simp only [putS]
 refine tq4 8 hH ?_;simp only [putS];refine tq4 12 hH ?_;simp only [putS];refine tq4 16 hH ?_;simp only [putS];refine rd 20 (some 37) fun K hK=>?_;clear hH;go_simp;refine(KF.out _ hC3).mono ?_;rintro e w6 ⟨rfl,hb6⟩;have hC4:Below wL.heap.size wL w6:=hC3.trans (hb6.mono hC3.size)
 go_wp2_with fail
 refine hK.out _ _ (HSS.out _ hC4) (fun hH=>?_);clear hK K
 try simp only [putS]
 refine tq2 21 hH ?_;refine tq1 23 hH ?_;simp only [putS];refine wpAnyH_done (by kernel_rfl) ?_ _;clear hH;clear hv4;cases v4
 rotate_left
 ·have HN:Hid (buildE m q b=(zSpace,false)):=by show _=_;unfold buildE;rw [HCB.out];rfl
  have kR2:=kR.below hC4;have hB2:=hB.trans (hC4.mono hB.size);have ⟨z0,y0,z1,y1,z2,y2,z3,y3,z4,y4⟩:=kR2.r5;go_wp2;have k9:=kR2.set5 (.slice none 0 0) (.slice none 0 0) (.slice none 0 0) (.slice none 0 0) (.slice none 0 0);refine bodyPost_ret (v:=.tuple #[.agg #[.slice none 0 0,.slice none 0 0,.slice none 0 0,.slice none 0 0,.slice none 0 0],.bool false]) (results_cs Tryz.results14 rfl rfl k9.rangeAt Tryz.underlying39 rfl sizeSpaceT) rfl ?_;rw [HN.out];exact⟨_,[],rfl,zSpace_own _,Fr.nil _,bls5 hB2 (by omega) _ _ _ _ _⟩
 have hcb:canBuild m q b=true:=by rw [HCB.out];rfl
 have HN:Hid (buildE m q b=(buildOf m q b V.toNat,true)):=by show _=_;unfold buildE;rw [hcb,HV.out];rfl
 obtain⟨hadm,hq,hvb,hvv,hV1,hV2,hll⟩:=canBuild_parts hcb;rw [HV.out]at hvv hV1 hV2;rw [HF.out]at hll;have HVV:=Lib.hid hvv;have HQ:=Lib.hid hq;have HAM:=Lib.hid hadm;have HVB:=Lib.hid hvb;have HLL:=Lib.hid hll;clear hcb hq hvb hvv hll HCB HV4 HSS KA KF KC hl4;have bLC:=hC4;replace hB:=hB.trans (hC4.mono hB.size);replace bxm:=bxm.below hC4;replace bxq:=bxq.below hC4;replace bxb:=bxb.below hC4;replace kR:=kR.below hC4;clear hC4;have kb_0:=bxb 0 _ rfl;have kb_1:=bxb 1 _ rfl;rename World=>wC;have hBC:=hB;have bmC:=bxm;have bqC:=bxq;have bbC:=bxb;have kRC:=kR;have hE:=Below.refl wC.heap.size wC
 go_wp2_with fail
 refine(iCopyBox_c _ b _ ((rBox_ok NB).keep rb (cells_below hB))).mono ?_;rintro e w2 ⟨csB,fB,rfl,oB,fF,hb2⟩;replace hB:=hB.trans (hb2.mono hB.size);replace bxm:=bxm.below hb2;replace bxq:=bxq.below hb2;replace bxb:=bxb.below hb2;replace kR:=kR.below hb2;replace hE:=hE.trans (hb2.mono hE.size);clear hb2 kb_0 kb_1;obtain⟨AL,nL,cL,AH,nH,cH,f1,f2,rfl,hfp,o1,o2⟩:=rBox_own.1 oB;clear o1 o2 hfp f1 f2;rename World=>wN;obtain⟨gS,hgS⟩:∃ g,g=wN.heap.size:=⟨_,rfl⟩;obtain⟨wS,hwS⟩:∃ W,W=wN.alloc (.cells #[.slice AL nL cL,.slice AH nH cH,.slice none 0 0,.slice none 0 0,.slice none 0 0] 39):=⟨_,rfl⟩;have hbS:Below wN.heap.size wN wS:=by rw [hwS];exact bal
 have kS:Bk wS gS 39 [.slice AL nL cL,.slice AH nH cH,.slice none 0 0,.slice none 0 0,.slice none 0 0]:=by rw [hwS,hgS];exact Bk.new wN _ _
 have hfl:∀ k∈fB,k<gS:=fun k hk=>by rw [hgS];exact(rBox_ok NB).lt oB k hk
 have hfB:Fr wC.heap.size fB:=fF;have hgC:wC.heap.size<=gS:=by rw [hgS];exact hE.size
 have hg4:w.heap.size+1+1+1<gS:=by rw [hgS];exact kR.lt
 go_upto_region 5 with fail
 rw [<- hwS,<- hgS];clear hwS fF hgS;replace oB:=(rBox_ok NB).ownB oB hbS;have bLS:=(bLC.trans (hE.mono bLC.size)).trans (hbS.mono (Nat.le_trans bLC.size hE.size));have hLg:wL.heap.size<=gS:=Nat.le_trans bLC.size hgC;replace hB:=hB.trans (hbS.mono hB.size);replace bxm:=bxm.below hbS;replace bxq:=bxq.below hbS;replace bxb:=bxb.below hbS;replace kR:=kR.below hbS;replace hE:=hE.trans (hbS.mono hE.size);clear hbS;obtain⟨wZ,hwZ⟩:∃ W,W=wS:=⟨_,rfl⟩;rw [<- hwZ]at kS oB bLS hE hB ⊢;clear hwZ
 have HLS:Hid (∀ V,OutS (fun z=>z=gS) wZ V->RS NB (rSlice NB 3 rInt) V Al nl cl (locsL b)):=by
  show ∀ V,_->_;intro V' hV';refine rL0.keep (rSlice_ok NB _ rInt_ok) (fun p v hv=>?_);have hp:=World.block_lt_of_cell? _ _ hv;have e1:=hV'.2 p.block (fun e=>by omega) (Nat.lt_of_lt_of_le hp bLS.size);rw [World.cell?_of_block (w:=wL) (e1.trans (bLS.block _ hp))];exact hv
 have S0:Sb wC wZ gS (buildOf m q b 0) AL nL cL AH nH cH none 0 0 none 0 0 none 0 0 wZ :=
  ⟨kS,⟨fB,oB,hfB,hfl⟩,MS.nil _ (Nat.zero_le _),MS.nil _ (Nat.zero_le _),MS.nil _ (Nat.zero_le _),(by intro k hk;cases hk),hE,⟨hgC,kS.lt⟩,OutS.refl _ _⟩
 have hVn:(nl:Int)=V:=by have h1:=locs_len b;rw [hnl,HV.out,if_neg (by omega)]at h1;omega
 clear oB kS hfB hfl hE kR bxm bxq bxb hB rL0 bLS
 go_wp2_with fail
 go_loopw [47] (fun iv wv=>∃ (k nC cC nK cK nP cP:Nat) (AC AK AP:Option Addr),k<=nl/\iv=.int .i64 (k:Int)/\Sb wC wZ gS (buildOf m q b k) AL nL cL AH nH cH AC nC cC AK nK cK AP nP cP wv) (fun i _=>V.toNat - (intOf i).toNat)
 case atStart=>exact⟨0,0,0,0,0,0,0,none,none,none,by omega,rfl,S0⟩
 case round =>
  clear S0;obtain⟨k,nC,cC,nK,cK,nP,cP,AC,AK,AP,hk,rfl,H⟩:=hrel;have bxm:=bmC.below H.be;have bxq:=bqC.below H.be;have bxb:=bbC.below H.be;have hB:=hBC.trans (H.be.mono hBC.size);by_cases hltn:k<nl
  ·have hlt:(k:Int)<V:=by omega
   have hltI:(k:Int)<nl:=by omega
   have hvk:(k:Int)<volume b:=by rw [<- HVV.out];exact hlt
   have hkI:I64 (k:Int):=by unfold I64;omega
   have hll2:=locSizes_len HVB.out (i:=k) hvk;have hl1:fullMask q<(locSizes (boxLoc b (k:Int)).1).length:=by rw [HF.out,hll2];have:=HLL.out;omega
   have hl2:(locSizes (boxLoc b (k:Int)).1).length<=16:=by rw [hll2];have:=HLL.out;omega
   obtain⟨hl5,hl6,hl7,hl8⟩:=buildOf_len m q b k;obtain⟨L,hL⟩:∃ L,(boxLoc b (k:Int)).1=L:=⟨_,rfl⟩;obtain⟨E,hE⟩:∃ E,bestX m q (locSizes L)=E:=⟨_,rfl⟩;have HST:Hid (buildOf m q b (k+1)=addS (buildOf m q b k) E):=by show _=_;rw [<- hE,<- hL];rfl
   have HE:Hid (bestX m q (locSizes L)=E):=hE;rw [hL]at hl1 hl2;have HL:=Lib.hid hL;obtain⟨S,hS⟩:∃ S,buildOf m q b k=S:=⟨_,rfl⟩;rw [hS]at H HST hl5 hl6 hl7;have HL5:=Lib.hid hl5;have HL6:=Lib.hid hl6;have hil:=loc_ok HVB.out (i:=k) hvk;rw [hL]at hil;have HIL:=Lib.hid hil;have HSZ:Hid (isSizes q (locSizes L)=true):=isSizes_locI HQ.out hil.1 (by rw [hil.2,HF.out];exact HLL.out);have HUP:Hid (admitted m=true->isSizes q (locSizes L)=true->SortUp m (locSizes L)):=Lib.hid (fun h _=>sortUp h hil.1);have HOE:Hid ((optV m q (locSizes L)).getD zPlanEntry=E):=by show _=_;rw [<- hE];unfold optV tabV bestX;rw [HAM.out,HSZ.out];rfl
   clear hil;clear hE hL hll2 hvk hS hl5 hl6 hl8;have kb_0:=bxb 0 _ rfl;have kb_1:=bxb 1 _ rfl;have rLk:=HLS.out wr H.os;obtain⟨bl,ol,x9,cs9,rfl,hrep9,hc9,hx9⟩:=rLk.at_ hltn;obtain⟨Aq,nq9,cq9,rfl,hRl⟩:=hrep9
   have hx9:x9=L:=by
    have h1:=hx9.out;unfold locsL at h1;rw [HV.out,if_neg (by omega),List.getElem?_map,List.getElem?_range (by omega)]at h1;have h2:(boxLoc b (k:Int)).1=x9:=by simpa using h1
    rw [<- h2];exact HL.out
   subst hx9;have cl9:wr.cell? ⟨bl,ol+k,none⟩=some (.slice Aq nq9 cq9):=by have:=hc9 0 _ rfl;simpa [rSlice]using this
   have HSS:Hid (∀ w',Below wr.heap.size wr w'->(w'.rangeAt w.heap.size 0 csm/\w'.cell? ⟨w.heap.size+1,0,none⟩=some (.int .i64 q.fVariableCount)/\w'.cell? ⟨w.heap.size+1,1,none⟩=some (.slice Aq_e nq_e cq_e))):=by
    show ∀ w',_->_;intro w' hb;exact⟨(bxm.below hb).range,(bxq.below hb) 0 _ rfl,(bxq.below hb) 1 _ rfl⟩
   have hd0:=(Below.refl wr.heap.size wr).drew
   go_upto_region 8 with fail
   clear cl9 hc9 rLk;refine hbg HSS.out (Below.refl _ _).drew (fun hH=>?_);refine ldm 0 52 (fun w h=>h.1) Tryz.underlying46 (by rw [lenm'];exact sizeModelT) hH ?_;refine tq2 1 hH ?_;simp only [putS];refine rd2 3 (some 55) 8 (some 12) (fun K hK=>?_) fun K hK=>?_
   all_goals clear hH
   focus
    go_simp;refine(iLocationSizes_c Aq nq9 cq9 x9 _ (hRl.below rInt_ok hd0)).mono ?_;rintro e U4 ⟨AS,nS,cS,rfl,mS,hb4⟩;have B4:Below wr.heap.size wr U4:=hd0.trans (hb4.mono hd0.size);have rS:=mS.rs rInt_ok;clear mS
    go_wp2_with fail
    refine hK.out _ _ (HSS.out _ B4) (fun hH=>?_);clear hK K
    try simp only [putS]
    refine rd2 4 (some 56) 8 (some 12) (fun K hK=>?_) fun K hK=>?_
    all_goals clear hH
    focus
     go_simp;refine(iOptimal_c csm m _ q AS nS cS (locSizes x9) _ ((rModel_ok NB).keep rm (cells_below (hB.trans (B4.mono hB.size)))) ((rQuery_ok NB).keep rq (cells_below (hB.trans (B4.mono hB.size)))) rS HUP.out).mono ?_;rintro e U5 ⟨csX,fS,rfl,oX,fX,hb5⟩;rw [HOE.out]at oX;obtain⟨AX,nX,cX,fS,rfl,rfl,i0,i1,i2,oS⟩:=rPlanEntry_own.1 oX;have B5:Below wr.heap.size wr U5:=B4.trans (hb5.mono B4.size)
     go_wp2_with fail
     refine hK.out _ _ (HSS.out _ B5) (fun hH=>?_);clear hK K
     try simp only [putS]
     refine tq2 5 hH ?_;refine tq1 7 hH ?_;simp only [putS];have hCa:=B5.alloc B5.size (.cells #[.int .i64 0,.int .i64 0,.int .i64 0,.slice none 0 0] 107);refine rd 8 (some 12) fun K hK=>?_;clear hH;go_simp;refine hK.out _ _ (HSS.out _ hCa) (fun hH=>?_);clear hK K
     try simp only [putS]
     obtain⟨gx,hg0⟩:∃ g,g=U5.heap.size:=⟨_,rfl⟩;obtain⟨Ua,hUa⟩:∃ W,W=U5.alloc (.cells #[.int .i64 0,.int .i64 0,.int .i64 0,.slice none 0 0] 107):=⟨_,rfl⟩;have kx:Bk Ua gx 107 [.int .i64 0,.int .i64 0,.int .i64 0,.slice none 0 0]:=by rw [hUa,hg0];exact Bk.new U5 _ _
     have B6:Below wr.heap.size wr Ua:=by rw [hUa];exact hCa
     have ba:Below U5.heap.size U5 Ua:=by rw [hUa];exact bal
     have hgl:wr.heap.size<=gx:=by rw [hg0];exact B5.size
     rw [<- hUa]at hH ⊢;rw [<- hg0];have hgx0:=Lib.hid hg0;clear hUa hg0 hCa;have hnx:gx∉fS:=fun e=>by have h1:=oS.lt (rPlanStep_ok NB) gx e;have h2:=hgx0.out;omega
     have BZ:=B6;have hgx:wr.heap.size<=gx/\gx∉fS:=⟨hgl,hnx⟩;replace oS:=oS.belowS (rPlanStep_ok NB) ba;have fS9:Fr wr.heap.size fS:=fX.mono B4.size;clear hnx hgx0 B6 ba hgl B4 B5 hb4 hb5 rS fX oX;have ⟨r0,z0,r1,z1,r2,z2,r3,z3⟩:=kx.r4;have hC9:=bls4 BZ hgx.1 (.int .i64 E.fMask) (.int .i64 E.fOrder) (.int .i64 E.fCost) (.slice AX nX cX);refine rd 9 none fun K hK=>?_;clear hH;go_simp;refine hK.out _ _ (HSS.out _ hC9) (fun hH=>?_);clear hK K
     try simp only [putS]
     refine tq1 10 hH ?_;simp only [putS];refine wpAnyH_done (by kernel_rfl) ?_ _;clear hH;obtain⟨W9,hW9⟩:∃ W,W=(((Ua.setCell ⟨gx,0,none⟩ (.int .i64 E.fMask)).setCell ⟨gx,1,none⟩ (.int .i64 E.fOrder)).setCell ⟨gx,2,none⟩ (.int .i64 E.fCost)).setCell ⟨gx,3,none⟩ (.slice AX nX cX):=⟨_,rfl⟩;have k9:Bk W9 gx 107 [.int .i64 E.fMask,.int .i64 E.fOrder,.int .i64 E.fCost,.slice AX nX cX]:=by rw [hW9];exact kx.put4 _ _ _ _
     have B9:Below wr.heap.size wr W9:=by rw [hW9];exact hC9
     have o9:OS NB 173 (rPlanStep NB) W9 fS AX nX cX E.fPlan.fSteps:=by rw [hW9];exact oS.okeep (rPlanStep_ok NB) (fun z hz=>set4_ne (fun e=>hgx.2 (by rw [<- e];exact hz)) _ _ _ _)
     rw [<- hW9];have hgx9:=hgx.1;clear hW9 kx hC9 oS r0 z0 r1 z1 r2 z2 r3 z3 BZ HSS hd0 hgx
    rotate_left
    focus
     have hCa:=B4.alloc B4.size (.cells #[.int .i64 0,.int .i64 0,.int .i64 0,.slice none 0 0] 107);go_simp;refine hK.out _ _ (HSS.out _ hCa) (fun hH=>?_);clear hK K
     try simp only [putS]
     obtain⟨gx,hg0⟩:∃ g,g=U4.heap.size:=⟨_,rfl⟩;obtain⟨Ua,hUa⟩:∃ W,W=U4.alloc (.cells #[.int .i64 0,.int .i64 0,.int .i64 0,.slice none 0 0] 107):=⟨_,rfl⟩;have kx:Bk Ua gx 107 [.int .i64 0,.int .i64 0,.int .i64 0,.slice none 0 0]:=by rw [hUa,hg0];exact Bk.new U4 _ _
     have B6:Below wr.heap.size wr Ua:=by rw [hUa];exact hCa
     have ba:Below U4.heap.size U4 Ua:=by rw [hUa];exact bal
     have hgl:wr.heap.size<=gx:=by rw [hg0];exact B4.size
     rw [<- hUa]at hH ⊢;rw [<- hg0];have hgx0:=Lib.hid hg0;clear hUa hg0 hCa;have hxl:=kx.lt;refine rd 4 (some 56) fun K hK=>?_;clear hH;go_simp;refine(iOptimal_c csm m _ q AS nS cS (locSizes x9) _ ((rModel_ok NB).keep rm (cells_below (hB.trans (B6.mono hB.size)))) ((rQuery_ok NB).keep rq (cells_below (hB.trans (B6.mono hB.size)))) (rS.below rInt_ok ba) HUP.out).mono ?_;rintro e U5 ⟨csX,fS,rfl,oX,fX,hb5⟩;rw [HOE.out]at oX;obtain⟨AX,nX,cX,fS,rfl,rfl,i0,i1,i2,oS⟩:=rPlanEntry_own.1 oX;have B5:Below wr.heap.size wr U5:=B6.trans (hb5.mono B6.size)
     go_wp2_with fail
     refine hK.out _ _ (HSS.out _ B5) (fun hH=>?_);clear hK K
     try simp only [putS]
     refine tq2 5 hH ?_;refine tq1 7 hH ?_;simp only [putS];replace kx:=kx.below hb5;have BZ:=B5;have hgx:wr.heap.size<=gx/\gx∉fS:=⟨hgl,fun e=>by have:=fX.ge gx e;omega⟩;have fS9:Fr wr.heap.size fS:=fX.mono B6.size;clear hgx0 hxl B6 ba hgl B4 B5 hb4 hb5 rS fX oX;have ⟨r0,z0,r1,z1,r2,z2,r3,z3⟩:=kx.r4;have hC9:=bls4 BZ hgx.1 (.int .i64 E.fMask) (.int .i64 E.fOrder) (.int .i64 E.fCost) (.slice AX nX cX);refine rd 9 none fun K hK=>?_;clear hH;go_simp;refine hK.out _ _ (HSS.out _ hC9) (fun hH=>?_);clear hK K
     try simp only [putS]
     refine tq1 10 hH ?_;simp only [putS];refine wpAnyH_done (by kernel_rfl) ?_ _;clear hH;obtain⟨W9,hW9⟩:∃ W,W=(((U5.setCell ⟨gx,0,none⟩ (.int .i64 E.fMask)).setCell ⟨gx,1,none⟩ (.int .i64 E.fOrder)).setCell ⟨gx,2,none⟩ (.int .i64 E.fCost)).setCell ⟨gx,3,none⟩ (.slice AX nX cX):=⟨_,rfl⟩;have k9:Bk W9 gx 107 [.int .i64 E.fMask,.int .i64 E.fOrder,.int .i64 E.fCost,.slice AX nX cX]:=by rw [hW9];exact kx.put4 _ _ _ _
     have B9:Below wr.heap.size wr W9:=by rw [hW9];exact hC9
     have o9:OS NB 173 (rPlanStep NB) W9 fS AX nX cX E.fPlan.fSteps:=by rw [hW9];exact oS.okeep (rPlanStep_ok NB) (fun z hz=>set4_ne (fun e=>hgx.2 (by rw [<- e];exact hz)) _ _ _ _)
     rw [<- hW9];have hgx9:=hgx.1;clear hW9 kx hC9 oS r0 z0 r1 z1 r2 z2 r3 z3 BZ HSS hd0 hgx
   rotate_left 2
   focus
    have hCa:=hd0.alloc hd0.size (.cells #[.int .i64 0,.int .i64 0,.int .i64 0,.slice none 0 0] 107);go_simp;refine hK.out _ _ (HSS.out _ hCa) (fun hH=>?_);clear hK K
    try simp only [putS]
    obtain⟨gx,hg0⟩:∃ g,g=wr.heap.size:=⟨_,rfl⟩;obtain⟨Ua,hUa⟩:∃ W,W=(wr.alloc (.cells #[.int .i64 0,.int .i64 0,.int .i64 0,.slice none 0 0] 107)).drew:=⟨_,rfl⟩;have kx:Bk Ua gx 107 [.int .i64 0,.int .i64 0,.int .i64 0,.slice none 0 0]:=by rw [hUa,hg0];exact Bk.new wr _ _
    have B6:Below wr.heap.size wr Ua:=by rw [hUa];exact hCa
    have ba:Below wr.heap.size wr Ua:=by rw [hUa];exact(bal).drew
    have hgl:wr.heap.size<=gx:=by rw [hg0];exact Nat.le_refl _
    rw [<- hUa]at hH ⊢;rw [<- hg0];have hgx0:=Lib.hid hg0;clear hUa hg0 hCa;refine rd 3 (some 55) fun K hK=>?_;clear hH;go_simp;refine(iLocationSizes_c Aq nq9 cq9 x9 _ (hRl.below rInt_ok B6)).mono ?_;rintro e U4 ⟨AS,nS,cS,rfl,mS,hb4⟩;have B4:Below wr.heap.size wr U4:=B6.trans (hb4.mono B6.size);have rS:=mS.rs rInt_ok;clear mS
    go_wp2_with fail
    refine hK.out _ _ (HSS.out _ B4) (fun hH=>?_);clear hK K
    try simp only [putS]
    replace kx:=kx.below hb4;have hxl:=kx.lt;refine rd 4 (some 56) fun K hK=>?_;clear hH;go_simp;refine(iOptimal_c csm m _ q AS nS cS (locSizes x9) _ ((rModel_ok NB).keep rm (cells_below (hB.trans (B4.mono hB.size)))) ((rQuery_ok NB).keep rq (cells_below (hB.trans (B4.mono hB.size)))) rS HUP.out).mono ?_;rintro e U5 ⟨csX,fS,rfl,oX,fX,hb5⟩;rw [HOE.out]at oX;obtain⟨AX,nX,cX,fS,rfl,rfl,i0,i1,i2,oS⟩:=rPlanEntry_own.1 oX;have B5:Below wr.heap.size wr U5:=B4.trans (hb5.mono B4.size)
    go_wp2_with fail
    refine hK.out _ _ (HSS.out _ B5) (fun hH=>?_);clear hK K
    try simp only [putS]
    refine tq2 5 hH ?_;refine tq1 7 hH ?_;simp only [putS];replace kx:=kx.below hb5;have BZ:=B5;have hgx:wr.heap.size<=gx/\gx∉fS:=⟨hgl,fun e=>by have:=fX.ge gx e;omega⟩;have fS9:Fr wr.heap.size fS:=fX.mono B4.size;clear hgx0 hxl B6 ba hgl B4 B5 hb4 hb5 rS fX oX;have ⟨r0,z0,r1,z1,r2,z2,r3,z3⟩:=kx.r4;have hC9:=bls4 BZ hgx.1 (.int .i64 E.fMask) (.int .i64 E.fOrder) (.int .i64 E.fCost) (.slice AX nX cX);refine rd 9 none fun K hK=>?_;clear hH;go_simp;refine hK.out _ _ (HSS.out _ hC9) (fun hH=>?_);clear hK K
    try simp only [putS]
    refine tq1 10 hH ?_;simp only [putS];refine wpAnyH_done (by kernel_rfl) ?_ _;clear hH;obtain⟨W9,hW9⟩:∃ W,W=(((U5.setCell ⟨gx,0,none⟩ (.int .i64 E.fMask)).setCell ⟨gx,1,none⟩ (.int .i64 E.fOrder)).setCell ⟨gx,2,none⟩ (.int .i64 E.fCost)).setCell ⟨gx,3,none⟩ (.slice AX nX cX):=⟨_,rfl⟩;have k9:Bk W9 gx 107 [.int .i64 E.fMask,.int .i64 E.fOrder,.int .i64 E.fCost,.slice AX nX cX]:=by rw [hW9];exact kx.put4 _ _ _ _
    have B9:Below wr.heap.size wr W9:=by rw [hW9];exact hC9
    have o9:OS NB 173 (rPlanStep NB) W9 fS AX nX cX E.fPlan.fSteps:=by rw [hW9];exact oS.okeep (rPlanStep_ok NB) (fun z hz=>set4_ne (fun e=>hgx.2 (by rw [<- e];exact hz)) _ _ _ _)
    rw [<- hW9];have hgx9:=hgx.1;clear hW9 kx hC9 oS r0 z0 r1 z1 r2 z2 r3 z3 BZ HSS hd0 hgx
   all_goals
    have H9:=H.below B9;have p4:=H9.kS.bx 4 _ rfl;have x3:=k9.bx 3 _ rfl;have hlP:=H.mP.len;have hlC:=H.mC.len;have hlK:=H.mK.len;rw [HL5.out]at hlC;rw [HL6.out]at hlK;have HLP:=Lib.hid hlP;rw [hlP]at hl7;have hgz:=H.gs.2
    have HPU:Hid (∀ z∈blk AP,z<wr.heap.size):=by
     show ∀ z∈blk AP,_;obtain⟨fp,op,ff⟩:=H.mP;exact fun z hz=>op.lt (rPlan_ok NB) z (op.blkIn z hz)
    clear hlP
    go_wp2_with fail
    refine(iBsIdx_c AP nP cP _ gx E.fPlan AX nX cX W9 (H9.mP.rs (rPlan_ok NB)) x3 (o9.rs (rPlanStep_ok NB))).mono ?_;rintro e W10 ⟨rfl,hb10⟩;obtain⟨kn,hkn⟩:∃ v,knownP E.fPlan S.fPlans 0=v:=⟨_,rfl⟩;rw [hkn];have hkb:=knownP_bd E.fPlan S.fPlans 0;rw [hkn,HLP.out]at hkb;have HKN:=Lib.hid hkn;have hkI2:I64 kn:=by unfold I64;rcases hkb with h|⟨j,h,_,h2⟩<;>omega
    have H10:=H9.below hb10;have k10:=k9.below hb10;have o10:=o9.belowS (rPlanStep_ok NB) hb10;have B10:=B9.trans (hb10.mono B9.size);clear hkn hkb H9 k9 o9 B9 hb10 p4 x3;by_cases hneg:kn<0
    focus
     have hal:=(Below.refl W10.heap.size W10).alloc (Nat.le_refl _) (.cells #[.slice AX nX cX] 76);have hA:=B10.alloc B10.size (.cells #[.slice AX nX cX] 76);have p4:=H10.kS.bx 4 _ rfl;have x3:=k10.bx 3 _ rfl;have oP:(rPlan NB).own (W10.alloc (.cells #[.slice AX nX cX] 76)) fS [.slice AX nX cX] E.fPlan:=rPlan_own.2 ⟨AX,nX,cX,_,rfl,rfl,o10.belowS (rPlanStep_ok NB) hal⟩;have kS5:=H10.kS.below hal;have hbz:nP+1<=NB:=by unfold NB;omega
     have hbb:(nP+1)*24<=140737488355328:=by omega
     go_upto_region 13 with (at_builtin;refine wpList_appB rfl _ _ 37 rfl _ 24 eiPlan (rPlan_ok NB) rfl H.mP hA H.os.1 ⟨W10.heap.size,0,none⟩ rfl fS [.slice AX nX cX] E.fPlan oP fS9 (cells_new _ _ _) hbz (Nat.le_refl _) hbb ?_;intro A5 c5 w5 hM5 hb5 hg5 hd5;have kS6:=(show Bk w5 gS _ _ from (hb5.block gS hgz).trans kS5);have p6:=kS6.bx 4 _ rfl;have f6:=kS6.frozen 4)
     obtain⟨W11,hW11⟩:∃ W,W=w5.setCell ⟨gS,4,none⟩ (.slice A5 (nP+1) c5):=⟨_,rfl⟩;have H11:=H.appP hA hM5 hb5 hg5
     have k11:Bk W11 gx 107 [.int .i64 E.fMask,.int .i64 E.fOrder,.int .i64 E.fCost,.slice AX nX cX]:=by
      rw [hW11];exact(heap_setCell_other _ ⟨gS,4,none⟩ gx _ (fun e=>by have e:gx=gS:=e;have:=H.os.1;omega)).trans ((k10.below hal).grw hg5 (fun e=>by have:=HPU.out gx e;omega))
     have HAD:Hid (addS S E=⟨S.fBox,S.fCosts++[E.fCost],S.fChoices++[(nP:Int)],S.fPlans++[E.fPlan]⟩):=by show _=_;unfold addS;rw [HKN.out,if_pos hneg,HLP.out]
     obtain⟨kv,hkv⟩:∃ v,(nP:Int)=v:=⟨_,rfl⟩;have hkI3:I64 kv:=by unfold I64;omega
     rw [hkv]at HAD;rw [<- hW11]at H11 ⊢;rw [hkv];clear hW11 hkv hneg hal hA p4 x3 oP kS5 kS6 p6 f6 hM5 hb5 hg5 hd5 H10 k10 o10 B10 hkI2 HKN fS9
    rotate_left
    focus
     have H11:=H10;have k11:=k10;have HAD:Hid (addS S E=⟨S.fBox,S.fCosts++[E.fCost],S.fChoices++[kn],S.fPlans⟩):=by show _=_;unfold addS;rw [HKN.out,if_neg hneg]
     have hkI3:=hkI2;obtain⟨W11,hW11⟩:∃ W,W=W10:=⟨_,rfl⟩;obtain⟨kv,hkv⟩:∃ v,v=kn:=⟨_,rfl⟩
     go_upto_region 13 with fail
     rw [<- hW11]at H11 k11 ⊢;rw [<- hkv]at HAD hkI3 ⊢;clear hW11 hkv hneg H10 k10 o10 B10 hkI2 HKN fS9
    all_goals
     have hgz:=H.gs.2;have c2:=H11.kS.bx 2 _ rfl;have x2:=k11.bx 2 _ rfl;have hA2:=(Below.refl W11.heap.size W11).alloc (Nat.le_refl _) (.cells #[.int .i64 E.fCost] 3);have kS12:=H11.kS.below hA2;have hbz:nC+1<=NB:=by unfold NB;omega
     have hbb:(nC+1)*8<=140737488355328:=by omega
     have hbz3:nK+1<=NB:=by unfold NB;omega
     have hbb3:(nK+1)*8<=140737488355328:=by omega
     go_upto_region 14 with (at_builtin;refine wpList_appB rfl _ _ 30 rfl _ 8 eiInt rInt_ok rfl H11.mC hA2 H11.os.1 ⟨W11.heap.size,0,none⟩ rfl [] [.int .i64 E.fCost] E.fCost ⟨rfl,rfl,i2⟩ (Fr.nil _) (cell_one_new _ _ _) hbz (Nat.le_refl _) hbb ?_;intro A6 c6 w6 hM6 hb6 hg6 hd6;have kS6:=(show Bk w6 gS _ _ from (hb6.block gS hgz).trans kS12);have p6:=kS6.bx 2 _ rfl;have f6:=kS6.frozen 2)
     obtain⟨W12,hW12⟩:∃ W,W=w6.setCell ⟨gS,2,none⟩ (.slice A6 (nC+1) c6):=⟨_,rfl⟩;have H12:=H11.appC hA2 hM6 hb6 hg6 hd6;rw [<- hW12]at H12 ⊢;clear hW12 hA2 kS12 kS6 p6 f6 hM6 hb6 hg6 hd6 c2 x2 H11 k11;have c3:=H12.kS.bx 3 _ rfl;have hA3:=(Below.refl W12.heap.size W12).alloc (Nat.le_refl _) (.cells #[.int .i64 kv] 3);have kS13:=H12.kS.below hA3
     go_wp2_with (at_builtin;refine wpList_appB rfl _ _ 30 rfl _ 8 eiInt rInt_ok rfl H12.mK hA3 H12.os.1 ⟨W12.heap.size,0,none⟩ rfl [] [.int .i64 kv] kv ⟨rfl,rfl,hkI3⟩ (Fr.nil _) (cell_one_new _ _ _) hbz3 (Nat.le_refl _) hbb3 ?_;intro A7 c7 w7 hM7 hb7 hg7 hd7;have kS7:=(show Bk w7 gS _ _ from (hb7.block gS hgz).trans kS13);have p7:=kS7.bx 3 _ rfl;have f7:=kS7.frozen 3)
     have H13:=H12.appK hA3 hM7 hb7 hg7 hd7;go_roundw
     case rel=>exact⟨_,_,_,_,_,⟨k+1,by omega,congrArg (Value.int .i64) (by omega),_,_,_,_,_,_,_,_,_,by rw [HST.out,HAD.out];exact H13⟩,rfl,rfl,rfl,rfl,rfl⟩
     case measure=>simp [intOf];omega
  ·have hkV:k=V.toNat:=by omega
   have HKV:=Lib.hid hkV;have kRw:=kRC.below H.be;have ⟨z0,y0,z1,y1,z2,y2,z3,y3,z4,y4⟩:=kRw.r5;have s0:=H.kS.bx 0 _ rfl;have s1:=H.kS.bx 1 _ rfl;have s2:=H.kS.bx 2 _ rfl;have s3:=H.kS.bx 3 _ rfl;have s4:=H.kS.bx 4 _ rfl;clear hkV;go_wp2;have k9:=kRw.set5 (.slice AL nL cL) (.slice AH nH cH) (.slice AC nC cC) (.slice AK nK cK) (.slice AP nP cP);refine bodyPost_ret (v:=.tuple #[.agg #[.slice AL nL cL,.slice AH nH cH,.slice AC nC cC,.slice AK nK cK,.slice AP nP cP],.bool true]) (results_cs Tryz.results14 rfl rfl k9.rangeAt Tryz.underlying39 rfl sizeSpaceT) rfl ?_;obtain⟨fp,oF,fF,hgn⟩:=H.own;have hRC:=kRC.lt
   rw [HKV.out]at oF;rw [HN.out];exact⟨_,fp,rfl,(rSpace_ok NB).okeep oF (fun z hz=>set5_ne (by have:=fF.ge z hz;omega) _ _ _ _ _),fF.mono hBC.size,bls5 hB (by omega) _ _ _ _ _⟩
end Go.Proofs.YtnlcfkpcmfljeaaGreat
