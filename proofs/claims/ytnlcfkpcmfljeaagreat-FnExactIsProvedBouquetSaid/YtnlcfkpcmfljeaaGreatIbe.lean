/-
  Ibe
-/
import Derived.Test.YtnlcfkpcmfljeaaGreatItb
import Derived.Test.YtnlcfkpcmfljeaaGreatEpl
import Derived.Test.YtnlcfkpcmfljeaaGreatSbw
set_option linter.unusedSimpArgs false
set_option linter.unusedVariables false
set_option maxHeartbeats 6400000
set_option maxRecDepth 100000
namespace Go.Proofs.YtnlcfkpcmfljeaaGreat
open Go.RowKit
attribute [local go_sem ↓] Go.wp_at_zero Go.wp_at_succ
theorem mask_yes {l:List PlanEntryD}{m:Int}{k:Nat}{x:PlanEntryD}(h:l[k]?=some x) (hm:x.fMask=m):(l.take (k+1)).filter (onMask m)=(l.take k).filter (onMask m)++[x]:=by rw [take_snoc h,List.filter_append];simp [onMask,hm]
theorem mask_no {l:List PlanEntryD}{m:Int}{k:Nat}{x:PlanEntryD}(h:l[k]?=some x) (hm:¬ x.fMask=m):(l.take (k+1)).filter (onMask m)=(l.take k).filter (onMask m):=by rw [take_snoc h,List.filter_append];simp [onMask,hm]
theorem iBestEntry_c (A:Option Addr) (n c:Nat) (l:List PlanEntryD) (m:Int) (w:World) (hr:RS NB (rPlanEntry NB) w A n c l) :
  Calls Tryz.prog 141 #[.slice A n c,.int .i64 m] w (RetVB (rPlanEntry NB) ((bestE l m).getD zPlanEntry) (.bool (bestE l m).isSome) w):=by
 have hn:=hr.bound;obtain⟨w1,hw1⟩:∃ W,W=w.alloc (.cells #[.int .i64 0,.int .i64 0,.int .i64 0,.slice none 0 0] 107):=⟨_,rfl⟩;have b1:Below w.heap.size w w1:=by rw [hw1];exact bal
 have kR:Bk w1 w.heap.size 107 [.int .i64 0,.int .i64 0,.int .i64 0,.slice none 0 0]:=by rw [hw1];exact Bk.new w _ _
 obtain⟨w2,hw2⟩:∃ W,W=w1.alloc (.cells #[] 107):=⟨_,rfl⟩;have b2:Below w1.heap.size w1 w2:=by rw [hw2];exact bal
 have hs1:w1.heap.size=w.heap.size+1:=by rw [hw1];simp
 obtain⟨A0,hA0⟩:∃ A:Option Addr,A=some ⟨w.heap.size+1,0,none⟩:=⟨_,rfl⟩;have hP:PT (rPlanEntry NB) 107 0 A0 0 0 [] w2:=by rw [hw2,hA0,<- hs1];exact PT.new (Nat.zero_le _)
 have hG:∀ z∈blk A0,w1.heap.size<=z:=fun z hz=>by rw [hA0]at hz;simp [blk]at hz;omega
 have H1:=Lib.hid hw1;have H2:=Lib.hid hw2;have HA0:=Lib.hid hA0;have HS1:=Lib.hid hs1;clear hw1 hw2 hA0 hs1
 go_enter Tryz.func141,Tryz.ntmps141
 go_upto_region 2 with fail
 rw [<- H1.out,<- HA0.out,<- H2.out];clear H1 H2 HA0
 go_wp2_with fail
 go_loopw [6,13] (fun ov iv wr=>∃ (k n2 c2:Nat) (A2:Option Addr),k<=n/\n2<=k/\iv=.int .i64 (k:Int)/\ov=.slice A2 n2 c2/\PT (rPlanEntry NB) 107 0 A2 n2 c2 ((l.take k).filter (onMask m)) wr/\(∀ z∈blk A2,w1.heap.size<=z)/\Below w1.heap.size w1 wr) (fun _ iv _=>n - (intOf iv).toNat)
 case atStart=>exact⟨0,0,0,A0,by omega,by omega,rfl,rfl,by rw [List.take_zero];exact hP,hG,b2⟩
 case round =>
  clear hP hG b2;obtain⟨k,n2,c2,A2,hk,hn2,rfl,rfl,P,G,hb⟩:=hrel;have B:=b1.trans (hb.mono b1.size);by_cases hlt:k<n
  ·obtain⟨be,oe,x,AE,nE,cE,rfl,c0,c1,c2',c3,i0,i1,i2,rE,hx⟩:=hr.ePlanEntry hlt
   have rx:(rPlanEntry NB).rep w [.int .i64 x.fMask,.int .i64 x.fOrder,.int .i64 x.fCost,.slice AE nE cE] x:=rPlanEntry_rep.2 ⟨AE,nE,cE,rfl,i0,i1,i2,rE⟩;replace c0:=cells_below B _ _ c0;replace c1:=cells_below B _ _ c1;replace c2':=cells_below B _ _ c2';replace c3:=cells_below B _ _ c3;have hkI:(k:Int)<n:=by omega
   obtain⟨wn,hwn⟩:∃ W,W=wr.alloc (.cells #[.int .i64 x.fMask,.int .i64 x.fOrder,.int .i64 x.fCost,.slice AE nE cE] 107):=⟨_,rfl⟩;have bn:Below wr.heap.size wr wn:=by rw [hwn];exact bal
   obtain⟨gE,hgE⟩:∃ g,g=wr.heap.size:=⟨_,rfl⟩;have kE:Bk wn gE 107 [.int .i64 x.fMask,.int .i64 x.fOrder,.int .i64 x.fCost,.slice AE nE cE]:=by rw [hwn,hgE];exact Bk.new wr _ _
   have hbn:=hb.trans (bn.mono hb.size);have Pn:=P.below (rPlanEntry_ok NB) bn;have Hn:=Lib.hid hwn;have HGn:=Lib.hid hgE;clear hwn hgE
   go_upto_region 5 with fail
   rw [<- Hn.out,<- HGn.out];clear Hn HGn c0 c1 c2' c3;have ⟨e0,f0,e1,f1,e2,f2,e3,f3⟩:=kE.r4;by_cases hm:x.fMask=m
   ·have hmd:(x.fMask==m)=true:=by simp [hm]
    have HF:=Lib.hid (mask_yes hx.out hm);have hA1:=(Below.refl wn.heap.size wn).alloc (Nat.le_refl _) (.cells #[.int .i64 x.fMask,.int .i64 x.fOrder,.int .i64 x.fCost,.slice AE nE cE] 107);have hw1s:=b1.size
    have hS:StS (rPlanEntry NB) (fun z=>z∈blk A2\/z<0) (wn.alloc (.cells #[.int .i64 x.fMask,.int .i64 x.fOrder,.int .i64 x.fCost,.slice AE nE cE] 107)) [.int .i64 x.fMask,.int .i64 x.fOrder,.int .i64 x.fCost,.slice AE nE cE] x :=
     StS.ofRep (rPlanEntry_ok NB) rx (b1.trans ((hbn.trans (hA1.mono hbn.size)).mono b1.size)) (fun z hz=>hz.elim (fun e=>by have:=G z e;omega) (fun e=>by omega))
    have hcn:=cells_new wn 107 [.int .i64 x.fMask,.int .i64 x.fOrder,.int .i64 x.fCost,.slice AE nE cE];clear hm
    go_wp2_with (at_builtin;go_loud (refine wpList_appK2 rfl _ _ 110 rfl _ 48 eiPlanEntry (rPlanEntry_ok NB) rfl Pn hA1 (Nat.zero_le _) ⟨wn.heap.size,0,none⟩ rfl _ _ hS hcn (by unfold NB;omega) (by omega) ?_;intro A' c' w' P' b' g' q'))
    go_roundw
    case rel=>exact⟨k+1,n2+1,c',A',by omega,by omega,by go_num,rfl,by rw [HF.out];exact P',fun z hz=>(q' z hz).elim (fun e=>G z e) (fun e=>Nat.le_trans (Nat.le_trans hbn.size hA1.size) e),below_app b' hbn hA1 g' G⟩
    case measure=>simp [intOf];omega
   ·have hmd:(x.fMask==m)=false:=by simp [hm]
    have HF:=Lib.hid (mask_no hx.out hm);clear hm;go_wp2;go_roundw
    case rel=>exact⟨k+1,n2,c2,A2,by omega,by omega,by go_num,rfl,by rw [HF.out];exact Pn,G,hbn⟩
    case measure=>simp [intOf];omega
  ·have hT:(l.take k).filter (onMask m)=l.filter (onMask m):=by rw [List.take_of_length_le (by rw [hr.len];omega)]
   rw [hT]at P;have hl:=P.len;have kR2:=kR.below hb;have ⟨z0,y0,z1,y1,z2,y2,z3,y3⟩:=kR2.r4;have hgw:w.heap.size<wr.heap.size:=kR2.lt;clear hT;by_cases h0:n2=0
   ·subst h0
    have HB:Hid (bestE l m=none):=by show _=_;unfold bestE;rw [List.eq_nil_of_length_eq_zero hl];rfl
    clear hl;go_wp2;have k9:=kR2.put4 (.int .i64 0) (.int .i64 0) (.int .i64 0) (.slice none 0 0);refine bodyPost_ret (v:=.tuple #[.agg #[.int .i64 0,.int .i64 0,.int .i64 0,.slice none 0 0],.bool false]) (results_cs Tryz.results141 rfl rfl k9.rangeAt Tryz.underlying107 rfl sizeEntT) rfl ?_;rw [HB.out];exact⟨_,[],rfl,zPlanEntry_own _,Fr.nil _,bls4 B (Nat.le_refl _) _ _ _ _⟩
   ·have h0d:((n2:Int)==0)=false:=by simp;omega
    have h0p:0<n2:=by omega
    clear h0
    go_wp2_with fail
    refine(iBestOf_c A2 n2 c2 _ wr (P.rs (rPlanEntry_ok NB)) h0p).mono ?_;rintro e w4 ⟨x,AX,nX,cX,rfl,hbx,rX,i0,i1,i2,hb4⟩;have HB:Hid (bestE l m=some x):=hbx;obtain⟨w5,hw5⟩:∃ W,W=w4.alloc (.cells #[.int .i64 x.fMask,.int .i64 x.fOrder,.int .i64 x.fCost,.slice AX nX cX] 107):=⟨_,rfl⟩;have b5:Below w4.heap.size w4 w5:=by rw [hw5];exact bal
    obtain⟨g9,hg9⟩:∃ g,g=w4.heap.size:=⟨_,rfl⟩;have k9:Bk w5 g9 107 [.int .i64 x.fMask,.int .i64 x.fOrder,.int .i64 x.fCost,.slice AX nX cX]:=by rw [hw5,hg9];exact Bk.new w4 _ _
    have b45:=hb4.trans (b5.mono hb4.size);have B5:=B.trans (b45.mono B.size);have kR5:=kR2.below b45;have hg9w:w.heap.size<g9:=by rw [hg9];have:=hb4.size;omega
    have H5:=Lib.hid hw5;have H9:=Lib.hid hg9;have rX5:=rX.below (rPlanStep_ok NB) b45;clear hw5 hg9 hbx z0 y0 z1 y1 z2 y2 z3 y3 kR2 b5 hb4
    go_upto_region 11 with fail
    rw [<- H5.out,<- H9.out];clear H5 H9;have x3:=k9.bx 3 _ rfl
    go_wp2_with fail
    refine(iCopyPlan_c _ x.fPlan w5 (rPlan_rep.2 ⟨AX,nX,cX,rfl,rX5⟩)).mono ?_;rintro e w6 ⟨cs6,fp6,rfl,o6,f6,hb6⟩;obtain⟨A6,n6,c6,fq6,rfl,rfl,o7⟩:=rPlan_own.1 o6;have k96:=k9.below hb6;have kR6:=kR5.below hb6;have B6:=B5.trans (hb6.mono B5.size);have hlt9:=k9.lt;have ⟨z0,y0,z1,y1,z2,y2,z3,y3⟩:=kR6.r4;have ⟨u0,v0,u1,v1,u2,v2,u3,v3⟩:=k96.r4;clear x3 rX5;go_wp2;have kR7:Bk (w6.setCell ⟨g9,3,none⟩ (.slice A6 n6 c6)) w.heap.size 107 [.int .i64 0,.int .i64 0,.int .i64 0,.slice none 0 0]:=(heap_setCell_other w6 ⟨g9,3,none⟩ w.heap.size _ (by simp only;omega)).trans kR6;have kR8:=kR7.put4 (.int .i64 x.fMask) (.int .i64 x.fOrder) (.int .i64 x.fCost) (.slice A6 n6 c6)
    refine bodyPost_ret (v:=.tuple #[.agg #[.int .i64 x.fMask,.int .i64 x.fOrder,.int .i64 x.fCost,.slice A6 n6 c6],.bool true]) (results_cs Tryz.results141 rfl rfl kR8.rangeAt Tryz.underlying107 rfl sizeEntT) rfl ?_;rw [HB.out];have B7:=B6.setCell (p:=⟨g9,3,none⟩) (by simp only;omega) (.slice A6 n6 c6);refine⟨_,_,rfl,rPlanEntry_own.2 ⟨A6,n6,c6,_,rfl,rfl,i0,i1,i2,o7.okeep (rPlanStep_ok NB) (fun z hz=>?_)⟩,f6.mono (by have:=B5.size;omega),bls4 B7 (Nat.le_refl _) _ _ _ _⟩;have hz1:=f6.ge z hz;exact(set4_ne (by omega) _ _ _ _).trans (heap_setCell_other w6 ⟨g9,3,none⟩ z _ (by simp only;omega))
theorem iOptimal_c (csm:List Value) (md:ModelD) (csq:List Value) (q:QueryD) (As:Option Addr) (ns cc:Nat) (s:List Int) (w:World)
  (hm:(rModel NB).rep w csm md) (hq:(rQuery NB).rep w csq q) (hs:RS NB rInt w As ns cc s) (hup:admitted md=true->isSizes q s=true->SortUp md s) :
  Calls Tryz.prog 66 #[.agg csm.toArray,.agg csq.toArray,.slice As ns cc] w (RetVB (rPlanEntry NB) ((optV md q s).getD zPlanEntry) (.bool (optV md q s).isSome) w):=by
 have lenm:=(rModel_ok NB).len hm;obtain⟨AA,nA,cA,rfl,hvc,hAt⟩:=rQuery_rep.1 hq;obtain⟨w1,hw1⟩:∃ W,W=w.alloc (.cells csm.toArray 46):=⟨_,rfl⟩;obtain⟨w2,hw2⟩:∃ W,W=w1.alloc (.cells #[.int .i64 q.fVariableCount,.slice AA nA cA] 50):=⟨_,rfl⟩;obtain⟨w3,hw3⟩:∃ W,W=w2.alloc (.cells #[.int .i64 0,.int .i64 0,.int .i64 0,.slice none 0 0] 107):=⟨_,rfl⟩;have hs1:w1.heap.size=w.heap.size+1:=by rw [hw1];simp
 have hs2:w2.heap.size=w.heap.size+1+1:=by rw [hw2];simp [hs1]
 have b1:Below w.heap.size w w1:=by rw [hw1];exact bal
 have b2:Below w1.heap.size w1 w2:=by rw [hw2];exact bal
 have b3:Below w2.heap.size w2 w3:=by rw [hw3];exact bal
 have kM:Bk w3 w.heap.size 46 csm:=Bk.below (w:=w2) (Bk.below (w:=w1) (by rw [hw1];exact Bk.new w _ _) b2) b3;have kQ:Bk w3 (w.heap.size+1) 50 [.int .i64 q.fVariableCount,.slice AA nA cA]:=Bk.below (w:=w2) (by rw [hw2,<- hs1];exact Bk.new w1 _ _) b3;have kR:Bk w3 (w.heap.size+1+1) 107 [.int .i64 0,.int .i64 0,.int .i64 0,.slice none 0 0]:=by rw [hw3,<- hs2];exact Bk.new w2 _ _
 have bb:Below w.heap.size w w3:=(b1.trans (b2.mono b1.size)).trans (b3.mono (by omega));have H1:=Lib.hid hw1;have H2:=Lib.hid hw2;have H3:=Lib.hid hw3;have hd0:Chg [w.heap.size+1+1] w3 w3.drew:=Chg.ofBelow (Below.refl _ _).drew _;have hgw:w.heap.size<=w.heap.size+1+1:=by omega
 have HSS:Hid (∀ w':World,Chg [w.heap.size+1+1] w3 w'->w'.rangeAt w.heap.size 0 csm/\w'.cell? ⟨w.heap.size+1,0,none⟩=some (.int .i64 q.fVariableCount)/\w'.cell? ⟨w.heap.size+1,1,none⟩=some (.slice AA nA cA)):=by
  show ∀ w':World,_->_;intro w' h;have km:Bk w' w.heap.size 46 csm:=(h.block _ kM.lt (by simp;omega)).trans kM;have kq:Bk w' (w.heap.size+1) 50 [.int .i64 q.fVariableCount,.slice AA nA cA]:=(h.block _ kQ.lt (by simp)).trans kQ;exact⟨km.rangeAt,kq.bx 0 _ rfl,kq.bx 1 _ rfl⟩
 clear hw1 hw2 hw3 hs1 hs2 b1 b2 b3
 go_enter Tryz.func66,Tryz.ntmps66
 go_upto_region 1 with fail
 rw [<- H1.out,<- H2.out,<- H3.out];clear H1 H2 H3;have hbd:=(Below.refl w3.heap.size w3).drew;have BD:=bb.trans (hbd.mono bb.size);refine hbg HSS.out hd0 (fun hH=>?_);refine ldm 0 8 (fun w h=>h.1) Tryz.underlying46 (by rw [lenm];exact sizeModelT) hH ?_;refine tq2 1 hH ?_;refine tq1 4 hH ?_;simp only [putS];refine rd 3 (some 11) fun K hK=>?_;clear hH;go_simp;refine(iPlanTable_c csm md _ q As ns cc s _ ((rModel_ok NB).keep hm (cells_below BD)) ((rQuery_ok NB).keep hq (cells_below BD)) (hs.below rInt_ok BD) hup).mono ?_;rintro e w4 ⟨A4,n4,c4,rfl,r4,hb4⟩;have hC1:Chg [w.heap.size+1+1] w3 w4:=hd0.trans (Chg.ofBelow hb4 _)
 go_wp2_with fail
 refine hK.out _ _ (HSS.out _ hC1) (fun hH=>?_);clear hK K
 try simp only [putS]
 have b34:=hbd.trans (hb4.mono hbd.size);have B4:=bb.trans (b34.mono bb.size);refine rd 5 (some 13) fun K hK=>?_;clear hH;go_simp;refine(iFullMask_c _ q _ ((rQuery_ok NB).keep hq (cells_below B4))).mono ?_;rintro e w5 ⟨rfl,hb5⟩;have hC2:Chg [w.heap.size+1+1] w3 w5:=hC1.trans (Chg.ofBelow hb5 _)
 go_wp2_with fail
 refine hK.out _ _ (HSS.out _ hC2) (fun hH=>?_);clear hK K
 try simp only [putS]
 refine rd 6 (some 14) fun K hK=>?_;clear hH;go_simp;refine(iBestEntry_c A4 n4 c4 _ (fullMask q) _ (r4.below (rPlanEntry_ok NB) hb5)).mono ?_;rintro e w6 ⟨cs6,fp6,rfl,o6,f6,hb6⟩;obtain⟨A6,n6,c6,fq6,rfl,rfl,i0,i1,i2,o7⟩:=rPlanEntry_own.1 o6;have hC3:Chg [w.heap.size+1+1] w3 w6:=hC2.trans (Chg.ofBelow hb6 _)
 go_wp2_with fail
 refine hK.out _ _ (HSS.out _ hC3) (fun hH=>?_);clear hK K
 try simp only [putS]
 have b36:=(b34.trans (hb5.mono b34.size)).trans (hb6.mono (Nat.le_trans b34.size hb5.size));have kR6:=kR.below b36;have B6:=bb.trans (b36.mono bb.size);have ⟨z0,y0,z1,y1,z2,y2,z3,y3⟩:=kR6.r4;have m0:(w.heap.size+1+1)∈[w.heap.size+1+1]:=List.mem_singleton.2 rfl;have hC4:Chg [w.heap.size+1+1] w3 (set4 w6 (w.heap.size+1+1) (.int .i64 ((bestE (tabV md q s) (fullMask q)).getD zPlanEntry).fMask) (.int .i64 ((bestE (tabV md q s) (fullMask q)).getD zPlanEntry).fOrder) (.int .i64 ((bestE (tabV md q s) (fullMask q)).getD zPlanEntry).fCost) (.slice A6 n6 c6)):=(((hC3.setCell m0 _ _).setCell m0 _ _).setCell m0 _ _).setCell m0 _ _
 refine tq2 7 hH ?_;simp only [putS];refine rd 9 none fun K hK=>?_;clear hH;go_simp;refine hK.out _ _ (HSS.out _ hC4) (fun hH=>?_);clear hK K
 try simp only [putS]
 refine tq1 10 hH ?_;simp only [putS];refine wpAnyH_done (by kernel_rfl) ?_ _;clear hH;go_wp2;have kR8:=kR6.put4 (.int .i64 ((bestE (tabV md q s) (fullMask q)).getD zPlanEntry).fMask) (.int .i64 ((bestE (tabV md q s) (fullMask q)).getD zPlanEntry).fOrder) (.int .i64 ((bestE (tabV md q s) (fullMask q)).getD zPlanEntry).fCost) (.slice A6 n6 c6);refine bodyPost_ret (v:=.tuple #[.agg #[.int .i64 ((bestE (tabV md q s) (fullMask q)).getD zPlanEntry).fMask,.int .i64 ((bestE (tabV md q s) (fullMask q)).getD zPlanEntry).fOrder,.int .i64 ((bestE (tabV md q s) (fullMask q)).getD zPlanEntry).fCost,.slice A6 n6 c6],.bool (bestE (tabV md q s) (fullMask q)).isSome]) (results_cs Tryz.results66 rfl rfl kR8.rangeAt Tryz.underlying107 rfl sizeEntT) rfl ?_
 have hlt:=kR.lt;have hs35:=Nat.le_trans b34.size hb5.size;refine⟨_,_,rfl,rPlanEntry_own.2 ⟨A6,n6,c6,_,rfl,rfl,i0,i1,i2,o7.okeep (rPlanStep_ok NB) (fun z hz=>?_)⟩,f6.mono (by have:=B6.size;have:=hb6.size;have:=bb.size;omega),bls4 B6 (by omega) _ _ _ _⟩;have hz1:=f6.ge z hz;exact set4_ne (by omega) _ _ _ _
def locsL (b:BoxD):List (List Int):=if 400<boxVol b then [] else (List.range (boxVol b).toNat).map (fun i:Nat=>(boxLoc b (i:Int)).1)
theorem locs_snoc (b:BoxD) (k:Nat):(List.range (k+1)).map (fun i:Nat=>(boxLoc b (i:Int)).1)=(List.range k).map (fun i:Nat=>(boxLoc b (i:Int)).1)++[(boxLoc b (k:Int)).1]:=by rw [List.range_succ,List.map_append];rfl
theorem eiRowI:Ei Tryz.prog 83 30 (.slice none 0 0) (rSlice NB 3 rInt).size 24:=⟨by kernel_rfl,by kernel_rfl,rfl⟩
theorem iLocations_c (csb:List Value) (b:BoxD) (w:World) (hb:(rBox NB).rep w csb b) :
  Calls Tryz.prog 61 #[.agg csb.toArray] w (RetS 30 (rSlice NB 3 rInt) (locsL b) w):=by
 have rb:=hb;obtain⟨AbLow,nbLow,cbLow,AbHigh,nbHigh,cbHigh,rfl,hbLow,hbHigh⟩:=rBox_rep.1 hb;clear hb;obtain⟨hB,bxb⟩:=op1 w [.slice AbLow nbLow cbLow,.slice AbHigh nbHigh cbHigh] 36
 go_enter Tryz.func61,Tryz.ntmps61
 have kb_0:=bxb 0 _ rfl;have kb_1:=bxb 1 _ rfl
 go_wp2_with fail
 refine(iBoxVolume_c _ b _ ((rBox_ok NB).keep rb (cells_below hB))).mono ?_;rintro e w1 ⟨rfl,hb1⟩;replace hB:=hB.trans (hb1.mono hB.size);replace bxb:=bxb.below hb1;clear hb1 kb_0 kb_1;obtain⟨V,hV⟩:∃ v,boxVol b=v:=⟨_,rfl⟩;have HV:=Lib.hid hV;rw [hV];clear hV;rename World=>wz;by_cases hgt:400<V
 ·have hd:decide (400<V)=true:=decide_eq_true hgt
  have HL:Hid (locsL b=[]):=by show _=_;unfold locsL;rw [HV.out,if_pos hgt]
  have hM0:=MS.nil (B:=w.heap.size) (M:=NB) (e:=30) (r:=rSlice NB 3 rInt) wz (Nat.zero_le _);go_wp2;go_ret;exact⟨_,_,_,rfl,by rw [HL.out];exact hM0,hB⟩
 have hd:decide (400<V)=false:=decide_eq_false hgt;have hz0:w.heap.size+1<=wz.heap.size:=Nat.succ_le_of_lt (World.block_lt_of_cell? _ _ (bxb 0 _ rfl));have hM:=MS.empty (B:=w.heap.size+1) (M:=NB) (e:=30) (r:=rSlice NB 3 rInt) wz hz0;have hb0:=(Below.refl _ wz).alloc (Nat.le_refl _) (.cells #[] 30);have HL:Hid (locsL b=(List.range V.toNat).map (fun i:Nat=>(boxLoc b (i:Int)).1)):=by show _=_;unfold locsL;rw [HV.out,if_neg hgt]
 replace hB:=hB.trans (hb0.mono hB.size);replace bxb:=bxb.below hb0;clear hb0
 go_wp2_with fail
 go_loopw [4,5] (fun s i wr=>∃ (k n c:Nat) (A:Option Addr),k<=V.toNat/\n=k/\i=.int .i64 (k:Int)/\s=.slice A n c/\MS (w.heap.size+1) NB 30 (rSlice NB 3 rInt) wr A n c ((List.range k).map (fun i:Nat=>(boxLoc b (i:Int)).1))/\Below w.heap.size w wr/\Bx wr w.heap.size [.slice AbLow nbLow cbLow,.slice AbHigh nbHigh cbHigh]) (fun _ i _=>(V - intOf i).toNat)
 case atStart=>exact⟨0,0,0,_,by omega,rfl,rfl,rfl,hM,hB,bxb⟩
 case round =>
  clear hB bxb hM;obtain⟨k,n,c,A,hk,rfl,rfl,rfl,hM,hB,bxb⟩:=hrel;have kb_0:=bxb 0 _ rfl;have kb_1:=bxb 1 _ rfl;have hz:=Nat.succ_le_of_lt (World.block_lt_of_cell? _ _ (bxb 0 _ rfl));by_cases hlt:(n:Int)<V
  ·have hn400:n<400:=by omega
   go_wp2_with fail
   refine(iBoxLocation_c _ b (n:Int) _ ((rBox_ok NB).keep rb (cells_below hB)) ⟨by omega,by omega⟩).mono ?_;rintro e w9 ⟨A9,n9,c9,rfl,m9,hb9⟩;obtain⟨f9,o9,fr9⟩:=m9;have hS:=Lib.hid (locs_snoc b n)
   go_wp2_with (at_builtin;go_loud (refine wpList_app (r:=rSlice NB 3 rInt) rfl _ _ 83 rfl _ 24 eiRowI (rSlice_ok NB _ rInt_ok) rfl hM (hb9.alloc hb9.size _) hz ⟨_,0,none⟩ rfl f9 [.slice A9 n9 c9] _ ((rSlice_ok NB _ rInt_ok).ownB ⟨A9,n9,c9,rfl,o9⟩ (bal)) fr9 (cell_one_new _ _ _) (by unfold NB;omega) (Nat.le_refl _) (by omega) ?_;intro A8 k8 w8 hM8 hb8 hg8))
   go_roundw
   case rel=>exact⟨n+1,n+1,k8,A8,by omega,rfl,by go_num,rfl,by rw [hS.out];exact hM8,(hB.trans ((hb9.alloc hb9.size _).mono hB.size)).trans (hb8.mono (Nat.le_succ _)),(bxb.below (hb9.alloc hb9.size _)).lowJ (Nat.lt_succ_self _) hb8⟩
   case measure=>simp [intOf];omega
  ·have hk4:n=V.toNat:=by omega
   subst hk4;go_wp2;go_ret;exact⟨_,_,_,rfl,by rw [HL.out];exact hM.base (Nat.le_succ _),hB⟩
end Go.Proofs.YtnlcfkpcmfljeaaGreat
namespace Go.Proofs.YtnlcfkpcmfljeaaGreat
open Go.RowKit
attribute [local go_sem ↓] Go.wp_at_zero Go.wp_at_succ
theorem iIsConnN_c (csx:List Value) (x:QueryD) (m:Int) (w:World) (hx:(rQuery NB).rep w csx x) (h0:validQ x=false) :
  Calls Tryz.prog 63 #[.agg csx.toArray,.int .i64 m] w fun e w'=>e=.returned (.bool (isConn x m))/\Below w.heap.size w w':=by
 have rx:=hx;obtain⟨Ax_e,nx_e,cx_e,rfl,hx_p5,hx_e⟩:=rQuery_rep.1 hx;clear hx;obtain⟨hB,bxx⟩:=op1 w [.int .i64 x.fVariableCount,.slice Ax_e nx_e cx_e] 50
 go_enter Tryz.func63,Tryz.ntmps63
 have kx_0:=bxx 0 _ rfl;have kx_1:=bxx 1 _ rfl
 go_wp2_with fail
 refine(iMaskOk_c _ x m _ ((rQuery_ok NB).keep rx (cells_below hB))).mono ?_;rintro e w1 ⟨rfl,hb1⟩;replace hB:=hB.trans (hb1.mono hB.size);replace bxx:=bxx.below hb1;clear hb1 kx_0 kx_1;have hm:maskOk x m=false:=by simp [maskOk,h0]
 have HI:Hid (isConn x m=false):=by show _=_;unfold isConn;rw [hm];rfl
 go_wp2;go_ret;exact⟨ret_bool (a:=false) HI.out.symm,hB⟩
theorem iIsConnF_c (csx:List Value) (x:QueryD) (w:World) (hx:(rQuery NB).rep w csx x):Calls Tryz.prog 63 #[.agg csx.toArray,.int .i64 (fullMask x)] w (fun e w'=>e=.returned (.bool (isConn x (fullMask x)))/\Below w.heap.size w w'):=by
 cases h:validQ x with
 | false=>exact iIsConnN_c csx x (fullMask x) w hx h
 | true =>
  refine iIsConnected_c csx x (fullMask x) w hx ?_;have hp:=validQ_parts h;unfold fullMask;rw [if_pos h];have:(2:Nat) ^ 1<=2 ^ x.fAtoms.length:=Nat.pow_le_pow_right (by omega) (by omega);omega
end Go.Proofs.YtnlcfkpcmfljeaaGreat
