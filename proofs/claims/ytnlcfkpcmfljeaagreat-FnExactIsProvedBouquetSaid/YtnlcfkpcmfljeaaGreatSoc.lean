/-
  Soc
-/
import Derived.Test.YtnlcfkpcmfljeaaGreatIbe
import Derived.Test.YtnlcfkpcmfljeaaGreatVbp
import Derived.Test.YtnlcfkpcmfljeaaGreatSlk
import Derived.Deep.RegionHeld3
import Derived.Deep.DrawnRows
set_option linter.unusedSimpArgs false
set_option linter.unusedVariables false
set_option maxHeartbeats 12800000
set_option maxRecDepth 100000
namespace Go.Proofs.YtnlcfkpcmfljeaaGreat
open Go.RowKit
attribute [local go_sem ↓] Go.wp_at_zero Go.wp_at_succ
theorem sPlanTable_c (csm:List Value) (m:ModelD) (csq:List Value) (q:QueryD) (Az:Option Addr) (nz cz:Nat) (z:List Int) (w:World) (hm:(rModel NB).rep w csm m) (hq:(rQuery NB).rep w csq q) (hz:RS NB rInt w Az nz cz z) :
  Calls Tryz.prog 218 #[.agg csm.toArray,.agg csq.toArray,.slice Az nz cz] w (fun e W=>∃ A n c,e=.returned (.slice A n c)/\RS NB (rPlanEntry NB) W A n c (tabV m q z)/\Below w.heap.size w W):=by
 have rm:=hm;have lenm:=(rModel_ok NB).len hm;clear hm;have rq:=hq;obtain⟨Aq_e,nq_e,cq_e,rfl,hq_p5,hq_e⟩:=rQuery_rep.1 hq;clear hq;obtain⟨hB,bxm,bxq⟩:=op2 w csm 46 [.int .i64 q.fVariableCount,.slice Aq_e nq_e cq_e] 50;have lenm':csm.length=30:=lenm;clear lenm;have hnz:=hz.bound
 go_enter Tryz.func218,Tryz.ntmps218
 go_wp2_with (refine wpList_load_mid rfl 46 _ rfl w.heap.size 0 rfl csm _ bxm.range Tryz.underlying46 rfl (by rw [lenm'];exact sizeModel) ?_)
 refine(sIsAdmitted_c _ m _ ((rModel_ok NB).keep rm (cells_below hB))).mono ?_;rintro e w1 ⟨rfl,hb1⟩;replace hB:=hB.trans (hb1.mono hB.size);replace bxm:=bxm.below hb1;replace bxq:=bxq.below hb1;clear hb1;cases e1:admitted m
 ·have HN:Hid (tabV m q z=[]):=by show _=_;unfold tabV;rw [e1];rfl
  clear e1;go_wp2;go_ret;rw [HN.out];exact⟨_,_,_,rfl,RS.nil _ _ _ _ _,by first|exact hB|exact hB.alloc hB.size _⟩
 have H1:=Lib.hid e1;clear e1;have kq_0:=bxq 0 _ rfl;have kq_1:=bxq 1 _ rfl
 go_wp2_with fail
 refine(sIsSizeVector_c _ q _ _ _ z _ ((rQuery_ok NB).keep rq (cells_below hB)) (hz.below rInt_ok hB)).mono ?_;rintro e w2 ⟨rfl,hb2⟩;replace hB:=hB.trans (hb2.mono hB.size);replace bxm:=bxm.below hb2;replace bxq:=bxq.below hb2;clear hb2 kq_0 kq_1;cases e1:isSizes q z
 ·have HN:Hid (tabV m q z=[]):=by show _=_;unfold tabV;rw [e1,Bool.and_false];rfl
  clear e1;go_wp2;go_ret;rw [HN.out];exact⟨_,_,_,rfl,RS.nil _ _ _ _ _,by first|exact hB|exact hB.alloc hB.size _⟩
 obtain⟨hq1,hq2,_⟩:=isSizes_parts e1;have hfz:fullMask q<z.length:=by unfold fullMask;rw [if_pos hq1];omega
 have hz16:z.length<=16:=by
  have:(2:Nat) ^ q.fAtoms.length<=2 ^ 4:=Nat.pow_le_pow_right (by omega) (validQ_parts hq1).2.2.2.1;omega
 have HN:Hid (tabV m q z=tableE m q z):=by show _=_;unfold tabV;rw [H1.out,e1];rfl
 have HQ:=Lib.hid hq1;clear e1 hq1 hq2;rename World=>wb
 have HSS:Hid (∀ w',Below wb.heap.size wb w'->(w'.rangeAt w.heap.size 0 csm/\w'.cell? ⟨w.heap.size+1,0,none⟩=some (.int .i64 q.fVariableCount)/\w'.cell? ⟨w.heap.size+1,1,none⟩=some (.slice Aq_e nq_e cq_e))):=by
  show ∀ w',_->_;intro w' hb;exact⟨(bxm.below hb).range,(bxq.below hb) 0 _ rfl,(bxq.below hb) 1 _ rfl⟩
 have hd0:=(Below.refl wb.heap.size wb).drew
 go_upto_region 3 with fail
 refine hbg HSS.out (Below.refl _ _).drew (fun hH=>?_);refine ldm 0 17 (fun w h=>h.1) Tryz.underlying46 (by rw [lenm'];exact sizeModelT) hH ?_;refine tq2 1 hH ?_;refine tq1 4 hH ?_;simp only [putS];have hX0:=hB.trans (hd0.mono hB.size);refine rd 3 (some 20) fun K hK=>?_;clear hH;go_simp;refine(sShapes_c _ q _ ((rQuery_ok NB).keep rq (cells_below hX0)) HQ.out).mono ?_;rintro e u1 ⟨Ash,nsh,csh,rfl,hsh,hb1⟩;have hC1:Below wb.heap.size wb u1:=hd0.trans (hb1.mono hd0.size)
 go_wp2_with fail
 refine hK.out _ _ (HSS.out _ hC1) (fun hH=>?_);clear hK K
 try simp only [putS]
 have hX1:=hB.trans (hC1.mono hB.size);refine rd 5 (some 22) fun K hK=>?_;clear hH;go_simp;refine(sTable_c csm m q Aq_e nq_e cq_e Ash nsh csh Az nz cz z _ ((rModel_ok NB).keep rm (cells_below hX1)) (hq_e.below (rAtom_ok NB) hX1) (hsh.rs rShape_ok) (hz.below rInt_ok hX1) HQ.out hfz hz16).mono ?_;rintro e u2 ⟨AT,nT,cT,rfl,PT5,hb2⟩;have hC2:Below wb.heap.size wb u2:=hC1.trans (hb2.mono hC1.size)
 go_wp2_with fail
 refine hK.out _ _ (HSS.out _ hC2) (fun hH=>?_);clear hK K
 try simp only [putS]
 refine tq1 6 hH ?_;simp only [putS];refine wpAnyH_done (by kernel_rfl) ?_ _;clear hH;go_wp2;go_ret;rw [HN.out];exact⟨_,_,_,rfl,PT5.rs (rPlanEntry_ok NB),hB.trans (hC2.mono hB.size)⟩
theorem sL26Best_c (csm:List Value) (m:ModelD) (csq:List Value) (q:QueryD) (Az:Option Addr) (nz cz:Nat) (z:List Int) (w:World) (hm:(rModel NB).rep w csm m) (hq:(rQuery NB).rep w csq q) (hz:RS NB rInt w Az nz cz z) :
  Calls Tryz.prog 165 #[.agg csm.toArray,.agg csq.toArray,.slice Az nz cz] w (RetVB (rPlanEntry NB) ((optV m q z).getD zPlanEntry) (.bool (optV m q z).isSome) w):=by
 have rm:=hm;have lenm:=(rModel_ok NB).len hm;clear hm;have rq:=hq;obtain⟨Aq_e,nq_e,cq_e,rfl,hq_p5,hq_e⟩:=rQuery_rep.1 hq;clear hq;obtain⟨hB,bxm,bxq⟩:=op2 w csm 46 [.int .i64 q.fVariableCount,.slice Aq_e nq_e cq_e] 50;have lenm':csm.length=30:=lenm;clear lenm;have hnz:=hz.bound;obtain⟨wA,hwA⟩:∃ W,W=((w.alloc (.cells csm.toArray 46)).alloc (.cells #[.int .i64 q.fVariableCount,.slice Aq_e nq_e cq_e] 50)):=⟨_,rfl⟩;rw [<- hwA]at hB bxm bxq;have hsA:wA.heap.size=w.heap.size+1+1:=by rw [hwA];simp
 obtain⟨wb,hwb⟩:∃ W,W=wA.alloc (.cells #[.int .i64 0,.int .i64 0,.int .i64 0,.slice none 0 0] 107):=⟨_,rfl⟩;have hb_wb:Below wA.heap.size wA wb:=by rw [hwb];exact(Below.refl wA.heap.size wA).alloc (Nat.le_refl _) _
 replace hB:=hB.trans (hb_wb.mono hB.size);replace bxm:=bxm.below hb_wb;replace bxq:=bxq.below hb_wb;clear hb_wb;have kR:Bk wb wA.heap.size 107 [.int .i64 0,.int .i64 0,.int .i64 0,.slice none 0 0]:=by rw [hwb];exact Bk.new wA _ _
 rw [hsA]at kR;obtain⟨E,hE⟩:∃ E,(optV m q z).getD zPlanEntry=E:=⟨_,rfl⟩;obtain⟨bb,hbb⟩:∃ b,(optV m q z).isSome=b:=⟨_,rfl⟩;have HE:Hid ((bestE (tabV m q z) (fullMask q)).getD zPlanEntry=E):=hE;have HBB:Hid ((bestE (tabV m q z) (fullMask q)).isSome=bb):=hbb;rw [hE,hbb];clear hE hbb;obtain⟨gR,hgR⟩:∃ g,g=w.heap.size+1+1:=⟨_,rfl⟩;rw [<- hgR]at kR;have hgR0:w.heap.size<=gR:=by omega
 have HGR:=Lib.hid hgR
 go_enter Tryz.func165,Tryz.ntmps165
 go_upto_region 1 with fail
 rw [<- hwA,<- hwb,<- hgR];clear hwA hwb hsA hgR
 have HSS:Hid (∀ w',Below wb.heap.size wb w'->(w'.rangeAt w.heap.size 0 csm/\w'.cell? ⟨w.heap.size+1,0,none⟩=some (.int .i64 q.fVariableCount)/\w'.cell? ⟨w.heap.size+1,1,none⟩=some (.slice Aq_e nq_e cq_e))):=by
  show ∀ w',_->_;intro w' hb;exact⟨(bxm.below hb).range,(bxq.below hb) 0 _ rfl,(bxq.below hb) 1 _ rfl⟩
 have hd0:=(Below.refl wb.heap.size wb).drew;refine hbg HSS.out (Below.refl _ _).drew (fun hH=>?_);refine ldm 0 11 (fun w h=>h.1) Tryz.underlying46 (by rw [lenm'];exact sizeModelT) hH ?_;refine tq2 1 hH ?_;refine tq1 4 hH ?_;simp only [putS];refine rd2 3 (some 14) 10 (some 8) (fun K hK=>?_) fun K hK=>?_
 all_goals clear hH
 focus
  go_simp;refine(sPlanTable_c csm m _ q Az nz cz z _ ((rModel_ok NB).keep rm (cells_below (hB.trans (hd0.mono hB.size)))) ((rQuery_ok NB).keep rq (cells_below (hB.trans (hd0.mono hB.size)))) (hz.below rInt_ok (hB.trans (hd0.mono hB.size)))).mono ?_;rintro e U3 ⟨AT,nT,cT,rfl,rT,hb3⟩;have B3:Below wb.heap.size wb U3:=hd0.trans (hb3.mono hd0.size)
  go_wp2_with fail
  refine hK.out _ _ (HSS.out _ B3) (fun hH=>?_);clear hK K
  try simp only [putS]
  refine rd2 5 (some 16) 10 (some 8) (fun K hK=>?_) fun K hK=>?_
  all_goals clear hH
  focus
   go_simp;refine(sFullMask_c _ q _ ((rQuery_ok NB).keep rq (cells_below (hB.trans (B3.mono hB.size))))).mono ?_;rintro e U5 ⟨rfl,hb5⟩;have B5:Below wb.heap.size wb U5:=B3.trans (hb5.mono B3.size);replace rT:=rT.below (rPlanEntry_ok NB) hb5
   go_wp2_with fail
   refine hK.out _ _ (HSS.out _ B5) (fun hH=>?_);clear hK K
   try simp only [putS]
   refine rd2 6 (some 17) 10 (some 8) (fun K hK=>?_) fun K hK=>?_
   all_goals clear hH
   focus
    go_simp;refine(sBest_c AT nT cT (tabV m q z) (fullMask q) _ rT).mono ?_;rintro e U6 ⟨csX,fS,rfl,oX,fX,hb6⟩;rw [HE.out]at oX;rw [HBB.out];obtain⟨AX,nX,cX,fS,rfl,rfl,i0,i1,i2,oS⟩:=rPlanEntry_own.1 oX;have B6:Below wb.heap.size wb U6:=B5.trans (hb6.mono B5.size)
    go_wp2_with fail
    refine hK.out _ _ (HSS.out _ B6) (fun hH=>?_);clear hK K
    try simp only [putS]
    refine tq2 7 hH ?_;refine tq1 9 hH ?_;simp only [putS];have hCa:=B6.alloc B6.size (.cells #[.int .i64 0,.int .i64 0,.int .i64 0,.slice none 0 0] 107);refine rd 10 (some 8) fun K hK=>?_;clear hH;go_simp;refine hK.out _ _ (HSS.out _ hCa) (fun hH=>?_);clear hK K
    try simp only [putS]
    obtain⟨gx,hg0⟩:∃ g,g=U6.heap.size:=⟨_,rfl⟩;obtain⟨Ua,hUa⟩:∃ W,W=U6.alloc (.cells #[.int .i64 0,.int .i64 0,.int .i64 0,.slice none 0 0] 107):=⟨_,rfl⟩;have kx:Bk Ua gx 107 [.int .i64 0,.int .i64 0,.int .i64 0,.slice none 0 0]:=by rw [hUa,hg0];exact Bk.new U6 _ _
    have Ba:Below wb.heap.size wb Ua:=by rw [hUa];exact hCa
    have ba:Below U6.heap.size U6 Ua:=by rw [hUa];exact bal
    have hgl:wb.heap.size<=gx:=by rw [hg0];exact B6.size
    rw [<- hUa]at hH ⊢;rw [<- hg0];have BZ:=Ba;have hgx:wb.heap.size<=gx/\gx∉fS:=⟨hgl,fun e=>by have:=oS.lt (rPlanStep_ok NB) gx e;omega⟩;replace oS:=oS.belowS (rPlanStep_ok NB) ba;have fS9:Fr wb.heap.size fS:=fX.mono B5.size;clear hUa hg0 hCa Ba ba hgl B3 B5 B6 hb3 hb5 hb6 rT fX oX;have ⟨r0,z0,r1,z1,r2,z2,r3,z3⟩:=kx.r4;have hC9:=bls4 BZ hgx.1 (.int .i64 E.fMask) (.int .i64 E.fOrder) (.int .i64 E.fCost) (.slice AX nX cX);refine rd 11 none fun K hK=>?_;clear hH;go_simp;refine hK.out _ _ (HSS.out _ hC9) (fun hH=>?_);clear hK K
    try simp only [putS]
    refine tq1 12 hH ?_;simp only [putS];refine wpAnyH_done (by kernel_rfl) ?_ _;clear hH;obtain⟨W9,hW9⟩:∃ W,W=(((Ua.setCell ⟨gx,0,none⟩ (.int .i64 E.fMask)).setCell ⟨gx,1,none⟩ (.int .i64 E.fOrder)).setCell ⟨gx,2,none⟩ (.int .i64 E.fCost)).setCell ⟨gx,3,none⟩ (.slice AX nX cX):=⟨_,rfl⟩;have k9:Bk W9 gx 107 [.int .i64 E.fMask,.int .i64 E.fOrder,.int .i64 E.fCost,.slice AX nX cX]:=by rw [hW9];exact kx.put4 _ _ _ _
    have B9:Below wb.heap.size wb W9:=by rw [hW9];exact hC9
    have o9:OS NB 173 (rPlanStep NB) W9 fS AX nX cX E.fPlan.fSteps:=by rw [hW9];exact oS.okeep (rPlanStep_ok NB) (fun z hz=>set4_ne (fun e=>hgx.2 (by rw [<- e];exact hz)) _ _ _ _)
    rw [<- hW9];have hgx9:=hgx.1;clear hW9 kx hC9 oS r0 z0 r1 z1 r2 z2 r3 z3 BZ hgx
   rotate_left
   focus
    have hCa:=B5.alloc B5.size (.cells #[.int .i64 0,.int .i64 0,.int .i64 0,.slice none 0 0] 107);go_simp;refine hK.out _ _ (HSS.out _ hCa) (fun hH=>?_);clear hK K
    try simp only [putS]
    obtain⟨gx,hg0⟩:∃ g,g=U5.heap.size:=⟨_,rfl⟩;obtain⟨Ua,hUa⟩:∃ W,W=U5.alloc (.cells #[.int .i64 0,.int .i64 0,.int .i64 0,.slice none 0 0] 107):=⟨_,rfl⟩;have kx:Bk Ua gx 107 [.int .i64 0,.int .i64 0,.int .i64 0,.slice none 0 0]:=by rw [hUa,hg0];exact Bk.new U5 _ _
    have Ba:Below wb.heap.size wb Ua:=by rw [hUa];exact hCa
    have ba:Below U5.heap.size U5 Ua:=by rw [hUa];exact bal
    have hgl:wb.heap.size<=gx:=by rw [hg0];exact B5.size
    rw [<- hUa]at hH ⊢;rw [<- hg0];clear hUa hg0 hCa;replace rT:=rT.below (rPlanEntry_ok NB) ba;clear ba;have hxl:=kx.lt;refine rd 6 (some 17) fun K hK=>?_;clear hH;go_simp;refine(sBest_c AT nT cT (tabV m q z) (fullMask q) _ rT).mono ?_;rintro e U6 ⟨csX,fS,rfl,oX,fX,hb6⟩;rw [HE.out]at oX;rw [HBB.out];obtain⟨AX,nX,cX,fS,rfl,rfl,i0,i1,i2,oS⟩:=rPlanEntry_own.1 oX;have B6:Below wb.heap.size wb U6:=Ba.trans (hb6.mono Ba.size)
    go_wp2_with fail
    refine hK.out _ _ (HSS.out _ B6) (fun hH=>?_);clear hK K
    try simp only [putS]
    refine tq2 7 hH ?_;refine tq1 9 hH ?_;simp only [putS];replace kx:=kx.below hb6;have BZ:=B6;have hgx:wb.heap.size<=gx/\gx∉fS:=⟨hgl,fun e=>by have:=fX.ge gx e;omega⟩;have fS9:Fr wb.heap.size fS:=fX.mono Ba.size;clear hgl hxl B6 Ba hb6 fX oX rT B3 hb3 hb5 B5;have ⟨r0,z0,r1,z1,r2,z2,r3,z3⟩:=kx.r4;have hC9:=bls4 BZ hgx.1 (.int .i64 E.fMask) (.int .i64 E.fOrder) (.int .i64 E.fCost) (.slice AX nX cX);refine rd 11 none fun K hK=>?_;clear hH;go_simp;refine hK.out _ _ (HSS.out _ hC9) (fun hH=>?_);clear hK K
    try simp only [putS]
    refine tq1 12 hH ?_;simp only [putS];refine wpAnyH_done (by kernel_rfl) ?_ _;clear hH;obtain⟨W9,hW9⟩:∃ W,W=(((U6.setCell ⟨gx,0,none⟩ (.int .i64 E.fMask)).setCell ⟨gx,1,none⟩ (.int .i64 E.fOrder)).setCell ⟨gx,2,none⟩ (.int .i64 E.fCost)).setCell ⟨gx,3,none⟩ (.slice AX nX cX):=⟨_,rfl⟩;have k9:Bk W9 gx 107 [.int .i64 E.fMask,.int .i64 E.fOrder,.int .i64 E.fCost,.slice AX nX cX]:=by rw [hW9];exact kx.put4 _ _ _ _
    have B9:Below wb.heap.size wb W9:=by rw [hW9];exact hC9
    have o9:OS NB 173 (rPlanStep NB) W9 fS AX nX cX E.fPlan.fSteps:=by rw [hW9];exact oS.okeep (rPlanStep_ok NB) (fun z hz=>set4_ne (fun e=>hgx.2 (by rw [<- e];exact hz)) _ _ _ _)
    rw [<- hW9];have hgx9:=hgx.1;clear hW9 kx hC9 oS r0 z0 r1 z1 r2 z2 r3 z3 BZ hgx
  rotate_left 2
  focus
   have hCa:=B3.alloc B3.size (.cells #[.int .i64 0,.int .i64 0,.int .i64 0,.slice none 0 0] 107);go_simp;refine hK.out _ _ (HSS.out _ hCa) (fun hH=>?_);clear hK K
   try simp only [putS]
   obtain⟨gx,hg0⟩:∃ g,g=U3.heap.size:=⟨_,rfl⟩;obtain⟨Ua,hUa⟩:∃ W,W=U3.alloc (.cells #[.int .i64 0,.int .i64 0,.int .i64 0,.slice none 0 0] 107):=⟨_,rfl⟩;have kx:Bk Ua gx 107 [.int .i64 0,.int .i64 0,.int .i64 0,.slice none 0 0]:=by rw [hUa,hg0];exact Bk.new U3 _ _
   have Ba:Below wb.heap.size wb Ua:=by rw [hUa];exact hCa
   have ba:Below U3.heap.size U3 Ua:=by rw [hUa];exact bal
   have hgl:wb.heap.size<=gx:=by rw [hg0];exact B3.size
   rw [<- hUa]at hH ⊢;rw [<- hg0];clear hUa hg0 hCa;replace rT:=rT.below (rPlanEntry_ok NB) ba;clear ba;refine rd 5 (some 16) fun K hK=>?_;clear hH;go_simp;refine(sFullMask_c _ q _ ((rQuery_ok NB).keep rq (cells_below (hB.trans (Ba.mono hB.size))))).mono ?_;rintro e U5 ⟨rfl,hb5⟩;have B5:Below wb.heap.size wb U5:=Ba.trans (hb5.mono Ba.size);replace rT:=rT.below (rPlanEntry_ok NB) hb5
   go_wp2_with fail
   refine hK.out _ _ (HSS.out _ B5) (fun hH=>?_);clear hK K
   try simp only [putS]
   replace kx:=kx.below hb5;have hxl:=kx.lt;refine rd 6 (some 17) fun K hK=>?_;clear hH;go_simp;refine(sBest_c AT nT cT (tabV m q z) (fullMask q) _ rT).mono ?_;rintro e U6 ⟨csX,fS,rfl,oX,fX,hb6⟩;rw [HE.out]at oX;rw [HBB.out];obtain⟨AX,nX,cX,fS,rfl,rfl,i0,i1,i2,oS⟩:=rPlanEntry_own.1 oX;have B6:Below wb.heap.size wb U6:=B5.trans (hb6.mono B5.size)
   go_wp2_with fail
   refine hK.out _ _ (HSS.out _ B6) (fun hH=>?_);clear hK K
   try simp only [putS]
   refine tq2 7 hH ?_;refine tq1 9 hH ?_;simp only [putS];replace kx:=kx.below hb6;have BZ:=B6;have hgx:wb.heap.size<=gx/\gx∉fS:=⟨hgl,fun e=>by have:=fX.ge gx e;omega⟩;have fS9:Fr wb.heap.size fS:=fX.mono B5.size;clear hgl hxl B6 Ba hb6 fX oX rT B3 hb3 hb5 B5;have ⟨r0,z0,r1,z1,r2,z2,r3,z3⟩:=kx.r4;have hC9:=bls4 BZ hgx.1 (.int .i64 E.fMask) (.int .i64 E.fOrder) (.int .i64 E.fCost) (.slice AX nX cX);refine rd 11 none fun K hK=>?_;clear hH;go_simp;refine hK.out _ _ (HSS.out _ hC9) (fun hH=>?_);clear hK K
   try simp only [putS]
   refine tq1 12 hH ?_;simp only [putS];refine wpAnyH_done (by kernel_rfl) ?_ _;clear hH;obtain⟨W9,hW9⟩:∃ W,W=(((U6.setCell ⟨gx,0,none⟩ (.int .i64 E.fMask)).setCell ⟨gx,1,none⟩ (.int .i64 E.fOrder)).setCell ⟨gx,2,none⟩ (.int .i64 E.fCost)).setCell ⟨gx,3,none⟩ (.slice AX nX cX):=⟨_,rfl⟩;have k9:Bk W9 gx 107 [.int .i64 E.fMask,.int .i64 E.fOrder,.int .i64 E.fCost,.slice AX nX cX]:=by rw [hW9];exact kx.put4 _ _ _ _
   have B9:Below wb.heap.size wb W9:=by rw [hW9];exact hC9
   have o9:OS NB 173 (rPlanStep NB) W9 fS AX nX cX E.fPlan.fSteps:=by rw [hW9];exact oS.okeep (rPlanStep_ok NB) (fun z hz=>set4_ne (fun e=>hgx.2 (by rw [<- e];exact hz)) _ _ _ _)
   rw [<- hW9];have hgx9:=hgx.1;clear hW9 kx hC9 oS r0 z0 r1 z1 r2 z2 r3 z3 BZ hgx
 rotate_left 3
 focus
  have hCa:=hd0.alloc hd0.size (.cells #[.int .i64 0,.int .i64 0,.int .i64 0,.slice none 0 0] 107);go_simp;refine hK.out _ _ (HSS.out _ hCa) (fun hH=>?_);clear hK K
  try simp only [putS]
  obtain⟨gx,hg0⟩:∃ g,g=wb.heap.size:=⟨_,rfl⟩;obtain⟨Ua,hUa⟩:∃ W,W=(wb.alloc (.cells #[.int .i64 0,.int .i64 0,.int .i64 0,.slice none 0 0] 107)).drew:=⟨_,rfl⟩;have kx:Bk Ua gx 107 [.int .i64 0,.int .i64 0,.int .i64 0,.slice none 0 0]:=by rw [hUa,hg0];exact Bk.new wb _ _
  have Ba:Below wb.heap.size wb Ua:=by rw [hUa];exact hCa
  have hgl:wb.heap.size<=gx:=by rw [hg0];exact Nat.le_refl _
  rw [<- hUa]at hH ⊢;rw [<- hg0];clear hUa hg0 hCa;refine rd 3 (some 14) fun K hK=>?_;clear hH;go_simp;refine(sPlanTable_c csm m _ q Az nz cz z _ ((rModel_ok NB).keep rm (cells_below (hB.trans (Ba.mono hB.size)))) ((rQuery_ok NB).keep rq (cells_below (hB.trans (Ba.mono hB.size)))) (hz.below rInt_ok (hB.trans (Ba.mono hB.size)))).mono ?_;rintro e U3 ⟨AT,nT,cT,rfl,rT,hb3⟩;have B3:Below wb.heap.size wb U3:=Ba.trans (hb3.mono Ba.size)
  go_wp2_with fail
  refine hK.out _ _ (HSS.out _ B3) (fun hH=>?_);clear hK K
  try simp only [putS]
  replace kx:=kx.below hb3;refine rd 5 (some 16) fun K hK=>?_;clear hH;go_simp;refine(sFullMask_c _ q _ ((rQuery_ok NB).keep rq (cells_below (hB.trans (B3.mono hB.size))))).mono ?_;rintro e U5 ⟨rfl,hb5⟩;have B5:Below wb.heap.size wb U5:=B3.trans (hb5.mono B3.size);replace rT:=rT.below (rPlanEntry_ok NB) hb5
  go_wp2_with fail
  refine hK.out _ _ (HSS.out _ B5) (fun hH=>?_);clear hK K
  try simp only [putS]
  replace kx:=kx.below hb5;have hxl:=kx.lt;refine rd 6 (some 17) fun K hK=>?_;clear hH;go_simp;refine(sBest_c AT nT cT (tabV m q z) (fullMask q) _ rT).mono ?_;rintro e U6 ⟨csX,fS,rfl,oX,fX,hb6⟩;rw [HE.out]at oX;rw [HBB.out];obtain⟨AX,nX,cX,fS,rfl,rfl,i0,i1,i2,oS⟩:=rPlanEntry_own.1 oX;have B6:Below wb.heap.size wb U6:=B5.trans (hb6.mono B5.size)
  go_wp2_with fail
  refine hK.out _ _ (HSS.out _ B6) (fun hH=>?_);clear hK K
  try simp only [putS]
  refine tq2 7 hH ?_;refine tq1 9 hH ?_;simp only [putS];replace kx:=kx.below hb6;have BZ:=B6;have hgx:wb.heap.size<=gx/\gx∉fS:=⟨hgl,fun e=>by have:=fX.ge gx e;omega⟩;have fS9:Fr wb.heap.size fS:=fX.mono B5.size;clear hgl hxl B6 Ba hb6 fX oX rT B3 hb3 hb5 B5;have ⟨r0,z0,r1,z1,r2,z2,r3,z3⟩:=kx.r4;have hC9:=bls4 BZ hgx.1 (.int .i64 E.fMask) (.int .i64 E.fOrder) (.int .i64 E.fCost) (.slice AX nX cX);refine rd 11 none fun K hK=>?_;clear hH;go_simp;refine hK.out _ _ (HSS.out _ hC9) (fun hH=>?_);clear hK K
  try simp only [putS]
  refine tq1 12 hH ?_;simp only [putS];refine wpAnyH_done (by kernel_rfl) ?_ _;clear hH;obtain⟨W9,hW9⟩:∃ W,W=(((U6.setCell ⟨gx,0,none⟩ (.int .i64 E.fMask)).setCell ⟨gx,1,none⟩ (.int .i64 E.fOrder)).setCell ⟨gx,2,none⟩ (.int .i64 E.fCost)).setCell ⟨gx,3,none⟩ (.slice AX nX cX):=⟨_,rfl⟩;have k9:Bk W9 gx 107 [.int .i64 E.fMask,.int .i64 E.fOrder,.int .i64 E.fCost,.slice AX nX cX]:=by rw [hW9];exact kx.put4 _ _ _ _
  have B9:Below wb.heap.size wb W9:=by rw [hW9];exact hC9
  have o9:OS NB 173 (rPlanStep NB) W9 fS AX nX cX E.fPlan.fSteps:=by rw [hW9];exact oS.okeep (rPlanStep_ok NB) (fun z hz=>set4_ne (fun e=>hgx.2 (by rw [<- e];exact hz)) _ _ _ _)
  rw [<- hW9];have hgx9:=hgx.1;clear hW9 kx hC9 oS r0 z0 r1 z1 r2 z2 r3 z3 BZ hgx
 all_goals
  have kR9:=kR.below B9;have hB9:=hB.trans (B9.mono hB.size);have hltR:=kR.lt;have hgne:gx≠gR:=by omega
  have ⟨z0,y0,z1,y1,z2,y2,z3,y3⟩:=kR9.r4;have ⟨u0,v0,u1,v1,u2,v2,u3,v3⟩:=k9.r4;clear HSS hd0;go_wp2;have kR8:=kR9.put4 (.int .i64 E.fMask) (.int .i64 E.fOrder) (.int .i64 E.fCost) (.slice AX nX cX);refine bodyPost_ret (v:=.tuple #[.agg #[.int .i64 E.fMask,.int .i64 E.fOrder,.int .i64 E.fCost,.slice AX nX cX],.bool bb]) (results_cs Tryz.results165 rfl rfl kR8.rangeAt Tryz.underlying107 rfl sizeEntT) rfl ?_;refine⟨_,_,rfl,rPlanEntry_own.2 ⟨AX,nX,cX,_,rfl,rfl,i0,i1,i2,o9.okeep (rPlanStep_ok NB) (fun z hz=>?_)⟩,fS9.mono hB.size,bls4 hB9 hgR0 _ _ _ _⟩;have hz1:=fS9.ge z hz;exact set4_ne (by omega) _ _ _ _
theorem sOptimalCost_c (csm:List Value) (m:ModelD) (csq:List Value) (q:QueryD) (Az:Option Addr) (nz cz:Nat) (z:List Int) (w:World) (hm:(rModel NB).rep w csm m) (hq:(rQuery NB).rep w csq q) (hz:RS NB rInt w Az nz cz z) :
  Calls Tryz.prog 96 #[.agg csm.toArray,.agg csq.toArray,.slice Az nz cz] w fun e w'=>e=.returned (.int .i64 (costV (optV m q z)))/\Below w.heap.size w w':=by
 have rm:=hm;have lenm:=(rModel_ok NB).len hm;clear hm;have rq:=hq;obtain⟨Aq_e,nq_e,cq_e,rfl,hq_p5,hq_e⟩:=rQuery_rep.1 hq;clear hq;obtain⟨hB,bxm,bxq⟩:=op2 w csm 46 [.int .i64 q.fVariableCount,.slice Aq_e nq_e cq_e] 50;have lenm':csm.length=30:=lenm;clear lenm;obtain⟨x,hx⟩:∃ x,optV m q z=x:=⟨_,rfl⟩;have HX:=Lib.hid hx;rw [hx];clear hx
 go_enter Tryz.func96,Tryz.ntmps96
 have kq_0:=bxq 0 _ rfl;have kq_1:=bxq 1 _ rfl
 go_wp2_with (refine wpList_load_mid rfl 46 _ rfl w.heap.size 0 rfl csm _ bxm.range Tryz.underlying46 rfl (by rw [lenm'];exact sizeModel) ?_)
 refine(sL26Best_c _ m _ q _ _ _ z _ ((rModel_ok NB).keep rm (cells_below hB)) ((rQuery_ok NB).keep rq (cells_below hB)) (hz.below rInt_ok hB)).mono ?_;rintro e w1 ⟨cs6,fp6,rfl,o6,f6,hb1⟩;replace hB:=hB.trans (hb1.mono hB.size);replace bxm:=bxm.below hb1;replace bxq:=bxq.below hb1;clear hb1 kq_0 kq_1;rw [HX.out]at o6 ⊢;clear f6;obtain⟨AX,nX,cX,fS,rfl,_,i0,i1,i2,oS⟩:=rPlanEntry_own.1 o6;clear o6 oS;cases x with
 | none =>
  go_wp2;go_ret;exact⟨rfl,hB.alloc hB.size _⟩
 | some E =>
  go_wp2;go_ret;exact⟨rfl,hB.alloc hB.size _⟩
theorem sOptimalCostAt_c (csm:List Value) (m:ModelD) (csq:List Value) (q:QueryD) (Az:Option Addr) (nz cz:Nat) (z:List Int) (w:World) (hm:(rModel NB).rep w csm m) (hq:(rQuery NB).rep w csq q) (hz:RS NB rInt w Az nz cz z) :
  Calls Tryz.prog 36 #[.agg csm.toArray,.agg csq.toArray,.slice Az nz cz] w fun e w'=>e=.returned (.int .i64 (optC m q z))/\Below w.heap.size w w':=by
 have rm:=hm;have lenm:=(rModel_ok NB).len hm;clear hm;have rq:=hq;obtain⟨Aq_e,nq_e,cq_e,rfl,hq_p5,hq_e⟩:=rQuery_rep.1 hq;clear hq;obtain⟨hB,bxm,bxq⟩:=op2 w csm 46 [.int .i64 q.fVariableCount,.slice Aq_e nq_e cq_e] 50;have lenm':csm.length=30:=lenm;clear lenm;have hnz:=hz.bound;obtain⟨wb,hwb⟩:∃ W,W=((w.alloc (.cells csm.toArray 46)).alloc (.cells #[.int .i64 q.fVariableCount,.slice Aq_e nq_e cq_e] 50)):=⟨_,rfl⟩;rw [<- hwb]at hB bxm bxq
 have HSS:Hid (∀ w',Below wb.heap.size wb w'->(w'.rangeAt w.heap.size 0 csm/\w'.cell? ⟨w.heap.size+1,0,none⟩=some (.int .i64 q.fVariableCount)/\w'.cell? ⟨w.heap.size+1,1,none⟩=some (.slice Aq_e nq_e cq_e))):=by
  show ∀ w',_->_;intro w' hb;exact⟨(bxm.below hb).range,(bxq.below hb) 0 _ rfl,(bxq.below hb) 1 _ rfl⟩
 have hd0:=(Below.refl wb.heap.size wb).drew;have hX0:=hB.trans (hd0.mono hB.size)
 go_enter Tryz.func36,Tryz.ntmps36
 go_upto_region 1 with fail
 rw [<- hwb];clear hwb;refine hbg HSS.out (Below.refl _ _).drew (fun hH=>?_);refine ldm 0 7 (fun w h=>h.1) Tryz.underlying46 (by rw [lenm'];exact sizeModelT) hH ?_;refine tq2 1 hH ?_;simp only [putS];refine rd 3 (some 10) fun K hK=>?_;clear hH;go_simp;refine(sLocationSizes_c _ _ _ z _ (hz.below rInt_ok hX0)).mono ?_;rintro e u1 ⟨A1,n1,c1,rfl,m1,hb1⟩;have hC1:Below wb.heap.size wb u1:=hd0.trans (hb1.mono hd0.size)
 go_wp2_with fail
 refine hK.out _ _ (HSS.out _ hC1) (fun hH=>?_);clear hK K
 try simp only [putS]
 have hX1:=hB.trans (hC1.mono hB.size);refine rd 4 (some 11) fun K hK=>?_;clear hH;go_simp;refine(sOptimalCost_c csm m _ q _ _ _ (locSizes z) _ ((rModel_ok NB).keep rm (cells_below hX1)) ((rQuery_ok NB).keep rq (cells_below hX1)) (m1.rs rInt_ok)).mono ?_;rintro e u2 ⟨rfl,hb2⟩;have hC2:Below wb.heap.size wb u2:=hC1.trans (hb2.mono hC1.size)
 go_wp2_with fail
 refine hK.out _ _ (HSS.out _ hC2) (fun hH=>?_);clear hK K
 try simp only [putS]
 refine tq1 5 hH ?_;simp only [putS];refine wpAnyH_done (by kernel_rfl) ?_ _;clear hH;go_wp2;go_ret;exact⟨rfl,hB.trans (hC2.mono hB.size)⟩
end Go.Proofs.YtnlcfkpcmfljeaaGreat
namespace Go.Proofs.YtnlcfkpcmfljeaaGreat
open Go.RowKit
attribute [local go_sem ↓] Go.wp_at_zero Go.wp_at_succ
theorem sortUpV {m:ModelD}{q:QueryD}(z:List Int):admitted m=true->isSizes q (locSizes z)=true->SortUp m (locSizes z):=by
 intro ha hs;cases h:isLoc z with
 | true=>exact sortUp ha h
 | false =>
  have h2:=(isSizes_parts hs).2.1;unfold locSizes at h2;rw [h]at h2;have:1<=(2:Nat) ^ q.fAtoms.length:=Nat.one_le_two_pow;simp at h2;omega
theorem iOptimalCost_c (csm:List Value) (m:ModelD) (csq:List Value) (q:QueryD) (Az:Option Addr) (nz cz:Nat) (z:List Int) (w:World) (hm:(rModel NB).rep w csm m) (hq:(rQuery NB).rep w csq q) (hz:RS NB rInt w Az nz cz z) (hup:admitted m=true->isSizes q z=true->SortUp m z) :
  Calls Tryz.prog 173 #[.agg csm.toArray,.agg csq.toArray,.slice Az nz cz] w fun e w'=>e=.returned (.int .i64 (costV (optV m q z)))/\Below w.heap.size w w':=by
 have rm:=hm;have lenm:=(rModel_ok NB).len hm;clear hm;have rq:=hq;obtain⟨Aq_e,nq_e,cq_e,rfl,hq_p5,hq_e⟩:=rQuery_rep.1 hq;clear hq;obtain⟨hB,bxm,bxq⟩:=op2 w csm 46 [.int .i64 q.fVariableCount,.slice Aq_e nq_e cq_e] 50;have lenm':csm.length=30:=lenm;clear lenm;obtain⟨x,hx⟩:∃ x,optV m q z=x:=⟨_,rfl⟩;have HX:=Lib.hid hx;rw [hx];clear hx
 go_enter Tryz.func173,Tryz.ntmps173
 have kq_0:=bxq 0 _ rfl;have kq_1:=bxq 1 _ rfl
 go_wp2_with (refine wpList_load_mid rfl 46 _ rfl w.heap.size 0 rfl csm _ bxm.range Tryz.underlying46 rfl (by rw [lenm'];exact sizeModel) ?_)
 refine(iOptimal_c _ m _ q _ _ _ z _ ((rModel_ok NB).keep rm (cells_below hB)) ((rQuery_ok NB).keep rq (cells_below hB)) (hz.below rInt_ok hB) hup).mono ?_;rintro e w1 ⟨cs6,fp6,rfl,o6,f6,hb1⟩;replace hB:=hB.trans (hb1.mono hB.size);replace bxm:=bxm.below hb1;replace bxq:=bxq.below hb1;clear hb1 kq_0 kq_1;rw [HX.out]at o6 ⊢;clear f6;obtain⟨AX,nX,cX,fS,rfl,_,i0,i1,i2,oS⟩:=rPlanEntry_own.1 o6;clear o6 oS;cases x with
 | none =>
  go_wp2;go_ret;exact⟨rfl,hB.alloc hB.size _⟩
 | some E =>
  go_wp2;go_ret;exact⟨rfl,hB.alloc hB.size _⟩
theorem iOptimalCostAt_c (csm:List Value) (m:ModelD) (csq:List Value) (q:QueryD) (Az:Option Addr) (nz cz:Nat) (z:List Int) (w:World) (hm:(rModel NB).rep w csm m) (hq:(rQuery NB).rep w csq q) (hz:RS NB rInt w Az nz cz z) :
  Calls Tryz.prog 110 #[.agg csm.toArray,.agg csq.toArray,.slice Az nz cz] w fun e w'=>e=.returned (.int .i64 (optC m q z))/\Below w.heap.size w w':=by
 have rm:=hm;have lenm:=(rModel_ok NB).len hm;clear hm;have rq:=hq;obtain⟨Aq_e,nq_e,cq_e,rfl,hq_p5,hq_e⟩:=rQuery_rep.1 hq;clear hq;obtain⟨hB,bxm,bxq⟩:=op2 w csm 46 [.int .i64 q.fVariableCount,.slice Aq_e nq_e cq_e] 50;have lenm':csm.length=30:=lenm;clear lenm;have hnz:=hz.bound;obtain⟨wb,hwb⟩:∃ W,W=((w.alloc (.cells csm.toArray 46)).alloc (.cells #[.int .i64 q.fVariableCount,.slice Aq_e nq_e cq_e] 50)):=⟨_,rfl⟩;rw [<- hwb]at hB bxm bxq
 have HSS:Hid (∀ w',Below wb.heap.size wb w'->(w'.rangeAt w.heap.size 0 csm/\w'.cell? ⟨w.heap.size+1,0,none⟩=some (.int .i64 q.fVariableCount)/\w'.cell? ⟨w.heap.size+1,1,none⟩=some (.slice Aq_e nq_e cq_e))):=by
  show ∀ w',_->_;intro w' hb;exact⟨(bxm.below hb).range,(bxq.below hb) 0 _ rfl,(bxq.below hb) 1 _ rfl⟩
 have hd0:=(Below.refl wb.heap.size wb).drew;have hX0:=hB.trans (hd0.mono hB.size)
 go_enter Tryz.func110,Tryz.ntmps110
 go_upto_region 1 with fail
 rw [<- hwb];clear hwb;refine hbg HSS.out (Below.refl _ _).drew (fun hH=>?_);refine ldm 0 7 (fun w h=>h.1) Tryz.underlying46 (by rw [lenm'];exact sizeModelT) hH ?_;refine tq2 1 hH ?_;simp only [putS];refine rd 3 (some 10) fun K hK=>?_;clear hH;go_simp;refine(iLocationSizes_c _ _ _ z _ (hz.below rInt_ok hX0)).mono ?_;rintro e u1 ⟨A1,n1,c1,rfl,m1,hb1⟩;have hC1:Below wb.heap.size wb u1:=hd0.trans (hb1.mono hd0.size)
 go_wp2_with fail
 refine hK.out _ _ (HSS.out _ hC1) (fun hH=>?_);clear hK K
 try simp only [putS]
 have hX1:=hB.trans (hC1.mono hB.size);refine rd 4 (some 11) fun K hK=>?_;clear hH;go_simp;refine(iOptimalCost_c csm m _ q _ _ _ (locSizes z) _ ((rModel_ok NB).keep rm (cells_below hX1)) ((rQuery_ok NB).keep rq (cells_below hX1)) (m1.rs rInt_ok) (sortUpV z)).mono ?_;rintro e u2 ⟨rfl,hb2⟩;have hC2:Below wb.heap.size wb u2:=hC1.trans (hb2.mono hC1.size)
 go_wp2_with fail
 refine hK.out _ _ (HSS.out _ hC2) (fun hH=>?_);clear hK K
 try simp only [putS]
 refine tq1 5 hH ?_;simp only [putS];refine wpAnyH_done (by kernel_rfl) ?_ _;clear hH;go_wp2;go_ret;exact⟨rfl,hB.trans (hC2.mono hB.size)⟩
end Go.Proofs.YtnlcfkpcmfljeaaGreat
namespace Go.Proofs.YtnlcfkpcmfljeaaGreat
open Go.RowKit
def costAt (m:ModelD) (q:QueryD) (ps:List PlanD) (l:List Int) (k:Int):Int:=match ps[k.toNat]? with
 | some p=>planCostAt m q p l
 | none=>0
theorem vbq_parts {q:QueryD}{b:BouquetD}(h:validBouquet q b=true):validQ q=true/\bqHead q b=true/\(∀ p∈b.fPlans,planFull q p=true)/\(∀ (k:Nat) (y:Int),b.fBudgets[k]?=some y->1<=y/\y<=500000000000)/\(∀ l∈b.fContours,∀ p∈l,0<=p/\p<(b.fPlans.length:Int))/\b.fContours.length=b.fBudgets.length:=by
 unfold validBouquet at h;simp only [Bool.and_eq_true,decide_eq_true_eq]at h;obtain⟨⟨⟨⟨⟨⟨h1,h2⟩,h3⟩,h4⟩,h5⟩,h6⟩,h7⟩:=h;refine⟨h1,h2,List.all_eq_true.1 h3,fun k y hy=>budOk_at h4 (lt_of_at hy) hy,fun l hl p hp=>?_,h7⟩;have h8:=List.all_eq_true.1 h5 l hl;unfold conOk at h8;simp only [Bool.and_eq_true,List.all_eq_true,List.mem_range]at h8;obtain⟨i,hi⟩:=List.getElem?_of_mem hp;have h9:=h8.2 i (lt_of_at hi);simp only [varOk,hi,Bool.and_eq_true]at h9;have:=inR_t.1 h9.1;omega
theorem slack_bd {x s:Int}(h1:1<=x/\x<=500000000000) (h2:0<=s/\s<=100):0<=slackOf x s/\slackOf x s<=1000000000000:=by
 have e1:inR x 0 1000000000000=true:=inR_t.2 ⟨by omega,by omega⟩;have e2:inR s 0 100=true:=inR_t.2 h2;have h:=slack_rng e1 e2;have h3:x*(100+s)<=500000000000*200:=Int.mul_le_mul h1.2 (by omega) (by omega) (by omega);unfold slackOf;rw [e1,e2];simp only [Bool.and_self,if_true];omega
theorem costAtN {m:ModelD}{q:QueryD}{ps:List PlanD}{l:List Int}{j:Nat}{p:PlanD}(h:ps[j]?=some p):costAt m q ps l (j:Int)=planCostAt m q p l:=by
 unfold costAt;rw [Int.toNat_natCast,h]
def okBouquet (m:ModelD) (q:QueryD) (b:BouquetD):Bool:=validBouquet q b&&(isConn q (fullMask q)&&admitted m)
def coveredAt (m:ModelD) (q:QueryD) (b:BouquetD) (l:List Int) (k:Int):Bool:=((b.fContours[k.toNat]?).getD []).any (fun p=>decide (costAt m q b.fPlans l p<=slackOf ((b.fBudgets[k.toNat]?).getD 0) b.fSlack))
def provedAt (m:ModelD) (q:QueryD) (b:BouquetD) (i:Nat):Bool:=decide (0<=contourOf b.fBudgets (optC m q (boxLoc b.fBox (i:Int)).1))&&coveredAt m q b (boxLoc b.fBox (i:Int)).1 (contourOf b.fBudgets (optC m q (boxLoc b.fBox (i:Int)).1))
def provedB (m:ModelD) (q:QueryD) (b:BouquetD):Bool:=okBouquet m q b&&(decide ((b.fBudgets[0]?).getD 0<=optC m q b.fBox.fLow)&&(List.range (boxVol b.fBox).toNat).all (provedAt m q b))
attribute [local go_sem ↓] Go.wp_at_zero Go.wp_at_succ
end Go.Proofs.YtnlcfkpcmfljeaaGreat
namespace Go.Proofs.YtnlcfkpcmfljeaaGreat
open Go.RowKit
attribute [local go_sem ↓] Go.wp_at_zero Go.wp_at_succ
theorem iBouquetOk_c (csm:List Value) (m:ModelD) (csq:List Value) (q:QueryD) (csb:List Value) (b:BouquetD) (w:World) (hm:(rModel NB).rep w csm m) (hq:(rQuery NB).rep w csq q) (hb:(rBouquet NB).rep w csb b) :
  Calls Tryz.prog 104 #[.agg csm.toArray,.agg csq.toArray,.agg csb.toArray] w fun e w'=>e=.returned (.bool (okBouquet m q b))/\Below w.heap.size w w':=by
 have rm:=hm;have lenm:=(rModel_ok NB).len hm;clear hm;have rq:=hq;obtain⟨Aq_e,nq_e,cq_e,rfl,hq_p5,hq_e⟩:=rQuery_rep.1 hq;clear hq;have rb:=hb;obtain⟨Ab_i,nb_i,cb_i,Ab_h,nb_h,cb_h,Ab_k,nb_k,cb_k,Ab_a4,nb_a4,cb_a4,Ab_w,nb_w,cb_w,rfl,hb_r5,hb_f4,hb_v4,hb_i,hb_h,hb_k,hb_a4,hb_w⟩:=rBouquet_rep.1 hb;clear hb;obtain⟨hB,bxm,bxq,bxb⟩:=op3 w csm 46 [.int .i64 q.fVariableCount,.slice Aq_e nq_e cq_e] 50 [.int .i64 b.fVersion,.int .i64 b.fRatio,.int .i64 b.fSlack,.slice Ab_i nb_i cb_i,.slice Ab_h nb_h cb_h,.slice Ab_k nb_k cb_k,.slice Ab_a4 nb_a4 cb_a4,.slice Ab_w nb_w cb_w] 90;have lenm':csm.length=30:=lenm
 clear lenm
 go_enter Tryz.func104,Tryz.ntmps104
 go_upto_region 1 with fail
 obtain⟨wb,hwb⟩:∃ W,W=((((((w).alloc (.cells csm.toArray 46))).alloc (.cells #[.int .i64 q.fVariableCount,.slice Aq_e nq_e cq_e] 50))).alloc (.cells #[.int .i64 b.fVersion,.int .i64 b.fRatio,.int .i64 b.fSlack,.slice Ab_i nb_i cb_i,.slice Ab_h nb_h cb_h,.slice Ab_k nb_k cb_k,.slice Ab_a4 nb_a4 cb_a4,.slice Ab_w nb_w cb_w] 90)):=⟨_,rfl⟩;rw [<- hwb]at hB bxm bxq bxb ⊢;clear hwb
 have HSS:Hid (∀ w',Below wb.heap.size wb w'->(w'.rangeAt w.heap.size 0 csm/\w'.cell? ⟨w.heap.size+1,0,none⟩=some (.int .i64 q.fVariableCount)/\w'.cell? ⟨w.heap.size+1,1,none⟩=some (.slice Aq_e nq_e cq_e)/\w'.cell? ⟨w.heap.size+1+1,0,none⟩=some (.int .i64 b.fVersion)/\w'.cell? ⟨w.heap.size+1+1,1,none⟩=some (.int .i64 b.fRatio)/\w'.cell? ⟨w.heap.size+1+1,2,none⟩=some (.int .i64 b.fSlack)/\w'.cell? ⟨w.heap.size+1+1,3,none⟩=some (.slice Ab_i nb_i cb_i)/\w'.cell? ⟨w.heap.size+1+1,4,none⟩=some (.slice Ab_h nb_h cb_h)/\w'.cell? ⟨w.heap.size+1+1,5,none⟩=some (.slice Ab_k nb_k cb_k)/\w'.cell? ⟨w.heap.size+1+1,6,none⟩=some (.slice Ab_a4 nb_a4 cb_a4)/\w'.cell? ⟨w.heap.size+1+1,7,none⟩=some (.slice Ab_w nb_w cb_w))):=by
  show ∀ w',_->_;intro w' hb;exact⟨(bxm.below hb).range,(bxq.below hb) 0 _ rfl,(bxq.below hb) 1 _ rfl,(bxb.below hb) 0 _ rfl,(bxb.below hb) 1 _ rfl,(bxb.below hb) 2 _ rfl,(bxb.below hb) 3 _ rfl,(bxb.below hb) 4 _ rfl,(bxb.below hb) 5 _ rfl,(bxb.below hb) 6 _ rfl,(bxb.below hb) 7 _ rfl⟩
 have hd0:=(Below.refl wb.heap.size wb).drew;obtain⟨v1,hv1⟩:∃ v,validBouquet q b=v:=⟨_,rfl⟩;obtain⟨v2,hv2⟩:∃ v,isConn q (fullMask q)=v:=⟨_,rfl⟩;obtain⟨v3,hv3⟩:∃ v,admitted m=v:=⟨_,rfl⟩;have HN:Hid (okBouquet m q b=(v1&&(v2&&v3))):=by show _=_;unfold okBouquet;rw [hv1,hv2,hv3]
 have H1:=Lib.hid hv1;have H2:=Lib.hid hv2;have H3:=Lib.hid hv3;clear hv1 hv2 hv3;cases v1
 ·refine hbg HSS.out (Below.refl _ _).drew (fun hH=>?_)
  refine tq2 0 hH ?_;simp only [putS];refine rd 2 (some 9) fun K hK=>?_;clear hH;go_simp;refine(iIsValidBouquet_c _ q _ b _ ((rQuery_ok NB).keep rq (cells_below (hB.trans (hd0.mono hB.size)))) ((rBouquet_ok NB).keep rb (cells_below (hB.trans (hd0.mono hB.size))))).mono ?_;rintro e u1 ⟨rfl,hb1⟩;rw [H1.out];have hC1:Below wb.heap.size wb u1:=hd0.trans (hb1.mono hd0.size)
  go_wp2_with fail
  refine hK.out _ _ (HSS.out _ hC1) (fun hH=>?_);clear hK K
  try simp only [putS]
  refine tq1 3 hH ?_;simp only [putS];refine tr4 4 hH ?_;simp only [putS];refine tq2 8 hH ?_;refine tr2 10 hH ?_;simp only [putS];refine tq2 12 hH ?_;simp only [putS];refine wpAnyH_done (by kernel_rfl) ?_ _;clear hH;go_wp2;go_ret;exact⟨ret_bool (by rw [HN.out];rfl),hB.trans (hC1.mono hB.size)⟩
 cases v2
 ·refine hbg HSS.out (Below.refl _ _).drew (fun hH=>?_)
  refine tq2 0 hH ?_;simp only [putS];refine rd 2 (some 9) fun K hK=>?_;clear hH;go_simp;refine(iIsValidBouquet_c _ q _ b _ ((rQuery_ok NB).keep rq (cells_below (hB.trans (hd0.mono hB.size)))) ((rBouquet_ok NB).keep rb (cells_below (hB.trans (hd0.mono hB.size))))).mono ?_;rintro e u1 ⟨rfl,hb1⟩;rw [H1.out];have hC1:Below wb.heap.size wb u1:=hd0.trans (hb1.mono hd0.size)
  go_wp2_with fail
  refine hK.out _ _ (HSS.out _ hC1) (fun hH=>?_);clear hK K
  try simp only [putS]
  refine tq2 3 hH ?_;refine tq1 5 hH ?_;simp only [putS];refine rd 6 (some 13) fun K hK=>?_;clear hH;go_simp;refine(iFullMask_c _ q _ ((rQuery_ok NB).keep rq (cells_below (hB.trans (hC1.mono hB.size))))).mono ?_;rintro e u2 ⟨rfl,hb2⟩;have hC2:Below wb.heap.size wb u2:=hC1.trans (hb2.mono hC1.size)
  go_wp2_with fail
  refine hK.out _ _ (HSS.out _ hC2) (fun hH=>?_);clear hK K
  try simp only [putS]
  refine rd 7 (some 14) fun K hK=>?_;clear hH;go_simp;refine(iIsConnF_c _ q _ ((rQuery_ok NB).keep rq (cells_below (hB.trans (hC2.mono hB.size))))).mono ?_;rintro e u3 ⟨rfl,hb3⟩;rw [H2.out];have hC3:Below wb.heap.size wb u3:=hC2.trans (hb3.mono hC2.size)
  go_wp2_with fail
  refine hK.out _ _ (HSS.out _ hC3) (fun hH=>?_);clear hK K
  try simp only [putS]
  refine tq2 8 hH ?_;refine tr2 10 hH ?_;simp only [putS];refine tq2 12 hH ?_;simp only [putS];refine wpAnyH_done (by kernel_rfl) ?_ _;clear hH;go_wp2;go_ret;exact⟨ret_bool (by rw [HN.out];rfl),hB.trans (hC3.mono hB.size)⟩
 refine hbg HSS.out (Below.refl _ _).drew (fun hH=>?_);refine tq2 0 hH ?_;simp only [putS];refine rd 2 (some 9) fun K hK=>?_;clear hH;go_simp;refine(iIsValidBouquet_c _ q _ b _ ((rQuery_ok NB).keep rq (cells_below (hB.trans (hd0.mono hB.size)))) ((rBouquet_ok NB).keep rb (cells_below (hB.trans (hd0.mono hB.size))))).mono ?_;rintro e u1 ⟨rfl,hb1⟩;rw [H1.out];have hC1:Below wb.heap.size wb u1:=hd0.trans (hb1.mono hd0.size)
 go_wp2_with fail
 refine hK.out _ _ (HSS.out _ hC1) (fun hH=>?_);clear hK K
 try simp only [putS]
 refine tq2 3 hH ?_;refine tq1 5 hH ?_;simp only [putS];refine rd 6 (some 13) fun K hK=>?_;clear hH;go_simp;refine(iFullMask_c _ q _ ((rQuery_ok NB).keep rq (cells_below (hB.trans (hC1.mono hB.size))))).mono ?_;rintro e u2 ⟨rfl,hb2⟩;have hC2:Below wb.heap.size wb u2:=hC1.trans (hb2.mono hC1.size)
 go_wp2_with fail
 refine hK.out _ _ (HSS.out _ hC2) (fun hH=>?_);clear hK K
 try simp only [putS]
 refine rd 7 (some 14) fun K hK=>?_;clear hH;go_simp;refine(iIsConnF_c _ q _ ((rQuery_ok NB).keep rq (cells_below (hB.trans (hC2.mono hB.size))))).mono ?_;rintro e u3 ⟨rfl,hb3⟩;rw [H2.out];have hC3:Below wb.heap.size wb u3:=hC2.trans (hb3.mono hC2.size)
 go_wp2_with fail
 refine hK.out _ _ (HSS.out _ hC3) (fun hH=>?_);clear hK K
 try simp only [putS]
 refine tq2 8 hH ?_;refine ldm 10 17 (fun w h=>h.1) Tryz.underlying46 (by rw [lenm'];exact sizeModelT) hH ?_;simp only [putS];refine rd 11 (some 18) fun K hK=>?_;clear hH;go_simp;refine(iIsAdmitted_c _ m _ ((rModel_ok NB).keep rm (cells_below (hB.trans (hC3.mono hB.size))))).mono ?_;rintro e u4 ⟨rfl,hb4⟩;rw [H3.out];have hC4:Below wb.heap.size wb u4:=hC3.trans (hb4.mono hC3.size)
 go_wp2_with fail
 refine hK.out _ _ (HSS.out _ hC4) (fun hH=>?_);clear hK K
 try simp only [putS]
 refine tq2 12 hH ?_;simp only [putS];refine wpAnyH_done (by kernel_rfl) ?_ _;clear hH;go_wp2;go_ret;exact⟨ret_bool (by rw [HN.out];rfl),hB.trans (hC4.mono hB.size)⟩
end Go.Proofs.YtnlcfkpcmfljeaaGreat
namespace Go.Proofs.YtnlcfkpcmfljeaaGreat
open Go.RowKit
theorem nat_mono {f:Nat->Int}(h:∀ a,a+1<8->f a<=f (a+1)) {a a':Nat}(h1:a<=a') (h2:a'<8):f a<=f a':=by
 induction a' with
 | zero =>
  obtain rfl:a=0:=by omega
  exact Int.le_refl _
 | succ n ih =>
  by_cases e:a=n+1
  ·subst e;exact Int.le_refl _
  ·exact Int.le_trans (ih (by omega) (by omega)) (h n h2)
def cost3 (o:OperatorD) (a b c:Nat):Int:=opCost o (clsSize (a:Int)) (clsSize (b:Int)) (clsSize (c:Int))
theorem opOk_at {o:OperatorD}(h:opOk o=true) {a b c:Nat}(ha:a<8) (hb:b<8) (hc:c<8) :
  1<=cost3 o a b c/\(a+1<8->cost3 o a b c<=cost3 o (a+1) b c)/\(b+1<8->cost3 o a b c<=cost3 o a (b+1) c)/\(c+1<8->cost3 o a b c<=cost3 o a b (c+1)):=by
 unfold opOk at h;simp only [Bool.and_eq_true,Bool.not_eq_true']at h;obtain⟨⟨_,hd⟩,hch⟩:=h;unfold hasCheap at hch;unfold hasDec at hd;simp only [Bool.not_eq_false']at hch hd;have h1:=List.all_eq_true.1 hch (64*a+8*b+c) (List.mem_range.2 (by omega));have h2:=List.all_eq_true.1 hd (64*a+8*b+c) (List.mem_range.2 (by omega));rw [trip_eq hb hc]at h1 h2;unfold cheapT costL at h1;simp only [Bool.not_eq_true',decide_eq_false_iff_not]at h1;unfold decT at h2;simp only [Bool.not_eq_true',Bool.not_eq_false']at h2;have d:=fun k (hk:k<3)=>List.all_eq_true.1 h2 k (List.mem_range.2 hk);have d0:=d 0 (by omega)
 have d1:=d 1 (by omega);have d2:=d 2 (by omega);unfold decAt at d0 d1 d2;simp only [List.getElem?_cons_zero,List.getElem?_cons_succ,List.set_cons_zero,List.set_cons_succ,Bool.not_eq_true',Bool.and_eq_false_iff,decide_eq_false_iff_not,costL]at d0 d1 d2;unfold cost3;have e:∀ n:Nat,((n+1:Nat):Int)=(n:Int)+1:=fun n=>by omega
 rw [e,e,e];exact⟨by omega,fun h=>by rcases d0 with d|d<;>(first|omega|(have:=of_decide_eq_false d;omega)),fun h=>by rcases d1 with d|d<;>(first|omega|(have:=of_decide_eq_false d;omega)),fun h=>by rcases d2 with d|d<;>(first|omega|(have:=of_decide_eq_false d;omega))⟩
theorem cost3_mono {o:OperatorD}(h:opOk o=true) {a b c a' b' c':Nat}(ha:a<=a') (hb:b<=b') (hc:c<=c') (ha':a'<8) (hb':b'<8) (hc':c'<8):cost3 o a b c<=cost3 o a' b' c':=by
 have s1:=nat_mono (f:=fun n=>cost3 o n b c) (fun n hn=>(opOk_at h (by omega) (by omega) (by omega)).2.1 hn) ha ha';have s2:=nat_mono (f:=fun n=>cost3 o a' n c) (fun n hn=>(opOk_at h (by omega) (by omega) (by omega)).2.2.1 hn) hb hb';have s3:=nat_mono (f:=fun n=>cost3 o a' b' n) (fun n hn=>(opOk_at h (by omega) (by omega) (by omega)).2.2.2 hn) hc hc';exact Int.le_trans s1 (Int.le_trans s2 s3)
theorem opCostV_3 {o:OperatorD}(h:opOk o=true) {a b c:Nat}(ha:a<8) (hb:b<8) (hc:c<8):opCostV o (clsSize (a:Int)) (clsSize (b:Int)) (clsSize (c:Int))=cost3 o a b c:=by
 have hv:validOp o=true:=by
  unfold opOk at h;simp only [Bool.and_eq_true]at h;exact h.1.1
 have k:=fun (n:Nat) (hn:n<8)=>clsSize_bd (k:=(n:Int)) (by omega) (by omega);unfold opCostV;rw [hv,inR_t.2 (k a ha),inR_t.2 (k b hb),inR_t.2 (k c hc)];rfl
def Rise (s s':List Int):Prop:=∀ m,∃ a a':Nat,a<=a'/\a'<8/\sizeAt s m=clsSize (a:Int)/\sizeAt s' m=clsSize (a':Int)
theorem op_rise {md:ModelD}(h:admitted md=true) {o:OperatorD}(ho:o∈modelOps md) {s s':List Int}(hr:Rise s s') (m1 m2 m3:Int) :
  1<=opCostV o (sizeAt s m1) (sizeAt s m2) (sizeAt s m3)/\opCostV o (sizeAt s m1) (sizeAt s m2) (sizeAt s m3)<=opCostV o (sizeAt s' m1) (sizeAt s' m2) (sizeAt s' m3) /\
  1<=opCostV o (sizeAt s m1) 0 (sizeAt s m1)/\opCostV o (sizeAt s m1) 0 (sizeAt s m1)<=opCostV o (sizeAt s' m1) 0 (sizeAt s' m1):=by
 have hk:opOk o=true:=List.all_eq_true.1 h _ ho;obtain⟨a,a',a1,a2,a3,a4⟩:=hr m1;obtain⟨b,b',b1,b2,b3,b4⟩:=hr m2;obtain⟨c,c',c1,c2,c3,c4⟩:=hr m3;have h0:(0:Int)=clsSize ((0:Nat):Int):=rfl;rw [a3,a4,b3,b4,c3,c4,h0,opCostV_3 hk (by omega) (by omega) (by omega),opCostV_3 hk (by omega) (by omega) (by omega),opCostV_3 hk (by omega) (by omega) (by omega),opCostV_3 hk (by omega) (by omega) (by omega)];exact⟨(opOk_at hk (by omega) (by omega) (by omega)).1,cost3_mono hk a1 b1 c1 a2 b2 c2,(opOk_at hk (by omega) (by omega) (by omega)).1,cost3_mono hk a1 (Nat.le_refl _) a1 a2 (by omega) a2⟩
theorem opOf_mem (md:ModelD) (k:Int):opOf md k∈modelOps md:=by
 unfold opOf modelOps
 repeat' split
 all_goals simp
def LeE (x y:PlanEntryD):Prop:=x.fMask=y.fMask/\x.fOrder=y.fOrder/\1<=x.fCost/\x.fCost<=y.fCost
def LeL:List PlanEntryD->List PlanEntryD->Prop
 | [],[]=>True
 | x::l,y::l'=>LeE x y/\LeL l l'
 | _,_=>False
def Both (R:PlanEntryD->PlanEntryD->Prop):Option PlanEntryD->Option PlanEntryD->Prop
 | none,none=>True
 | some x,some y=>R x y
 | _,_=>False
def LeC (x y:PlanEntryD):Prop:=1<=x.fCost/\x.fCost<=y.fCost
theorem LeL.app:∀ {a a' b b':List PlanEntryD},LeL a a'->LeL b b'->LeL (a++b) (a'++b')
 | [],[],_,_,_,h=>h
 | _::_,_::_,_,_,h,h2=>⟨h.1,LeL.app h.2 h2⟩
theorem LeL.filter {p:PlanEntryD->Bool}(hp:∀ x y,LeE x y->p x=p y):∀ {l l':List PlanEntryD},LeL l l'->LeL (l.filter p) (l'.filter p)
 | [],[],_=>trivial
 | x::l,y::l',h=>by
  have ih:=LeL.filter hp h.2;rw [List.filter_cons,List.filter_cons,hp x y h.1];split
  ·exact⟨h.1,ih⟩
  ·exact ih
theorem LeL.find {p:PlanEntryD->Bool}(hp:∀ x y,LeE x y->p x=p y):∀ {l l':List PlanEntryD},LeL l l'->Both LeE (l.find? p) (l'.find? p)
 | [],[],_=>trivial
 | x::l,y::l',h=>by
  have ih:=LeL.find hp h.2;rw [List.find?_cons,List.find?_cons,hp x y h.1];split
  ·exact h.1
  ·exact ih
theorem better_le {b b':Option PlanEntryD}{x y:PlanEntryD}(h:Both LeC b b') (hx:LeE x y):Both LeC (better b x) (better b' y):=by
 obtain⟨_,_,h1,h2⟩:=hx
 match b,b',h with
 | none,none,_=>exact⟨h1,h2⟩
 | some u,some v,h =>
  obtain⟨g1,g2⟩:=h;show Both LeC (if x.fCost<u.fCost then some x else some u) (if y.fCost<v.fCost then some y else some v);split<;>split
  ·exact⟨h1,h2⟩
  ·exact⟨h1,by omega⟩
  ·exact⟨g1,by omega⟩
  ·exact⟨g1,g2⟩
theorem best_le:∀ {l l':List PlanEntryD}{b b':Option PlanEntryD},LeL l l'->Both LeC b b'->Both LeC (l.foldl better b) (l'.foldl better b')
 | [],[],_,_,_,h=>h
 | x::l,y::l',b,b',h,hb=>best_le (l:=l) (l':=l') h.2 (better_le hb h.1)
theorem bestE_le {l l':List PlanEntryD}(h:LeL l l') (m:Int):Both LeC (bestE l m) (bestE l' m) :=
 best_le (h.filter fun x y e=>by unfold onMask;rw [e.1]) trivial
theorem findE_le {l l':List PlanEntryD}(h:LeL l l') (m o:Int):Both LeE (findE l m o) (findE l' m o) :=
 h.find fun x y e=>by unfold isAt;rw [e.1,e.2.1]
section
variable {md:ModelD} {q:QueryD} {s s':List Int}
theorem inputE_le (ha:admitted md=true) (hr:Rise s s') {l l':List PlanEntryD}(h:LeL l l') {mk v:Int}{low low':PlanEntryD}(h1:bestE l mk=some low) (h2:bestE l' mk=some low'):LeE (inputE md s l mk v) (inputE md s' l' mk v)/\(inputE md s l mk v).fMask=mk:=by
 have hb:=bestE_le h mk;rw [h1,h2]at hb;obtain⟨b1,b2⟩:=hb;have hf:=findE_le h mk v;have ho:=op_rise ha (o:=md.fSort) (by simp [modelOps]) hr mk mk mk
 have hs:LeE (sortE md s low mk v) (sortE md s' low' mk v):=by
  refine⟨rfl,rfl,?_,?_⟩
  ·show 1<=low.fCost+opCostV md.fSort (sizeAt s mk) 0 (sizeAt s mk);omega
  ·show low.fCost+opCostV md.fSort (sizeAt s mk) 0 (sizeAt s mk)<=low'.fCost+opCostV md.fSort (sizeAt s' mk) 0 (sizeAt s' mk);omega
 have e1:inputE md s l mk v=match findE l mk v with|some x=>if x.fCost<=(sortE md s low mk v).fCost then x else sortE md s low mk v|none=>sortE md s low mk v:=by unfold inputE;rw [h1]<;>rfl
 have e2:inputE md s' l' mk v=match findE l' mk v with|some x=>if x.fCost<=(sortE md s' low' mk v).fCost then x else sortE md s' low' mk v|none=>sortE md s' low' mk v:=by unfold inputE;rw [h2]<;>rfl
 rw [e1,e2];cases hx:findE l mk v with
 | none =>
  cases hy:findE l' mk v with
  | none=>exact⟨hs,rfl⟩
  | some y=>rw [hx,hy]at hf;exact hf.elim
 | some x =>
  cases hy:findE l' mk v with
  | none=>rw [hx,hy]at hf;exact hf.elim
  | some y =>
   rw [hx,hy]at hf;obtain⟨f1,f2,f3,f4⟩:=hf;obtain⟨_,g1,g2⟩:=findE_mem hx;obtain⟨_,k1,k2⟩:=findE_mem hy;obtain⟨_,_,s3,s4⟩:=hs;show LeE (if x.fCost<=(sortE md s low mk v).fCost then x else sortE md s low mk v) (if y.fCost<=(sortE md s' low' mk v).fCost then y else sortE md s' low' mk v)/\PlanEntryD.fMask (if x.fCost<=(sortE md s low mk v).fCost then x else sortE md s low mk v)=mk;split<;>split
   ·exact⟨⟨f1,f2,f3,f4⟩,g1⟩
   ·exact⟨⟨g1,g2,f3,by omega⟩,g1⟩
   ·exact⟨⟨k1.symm,k2.symm,s3,by omega⟩,rfl⟩
   ·exact⟨⟨rfl,rfl,s3,s4⟩,rfl⟩
structure MineLe (mk:Int) (L L':List PlanEntryD):Prop where
 len:L.length=5
 len':L'.length=5
 ok:∀ (k:Nat) (x y:PlanEntryD),L[k]?=some x->L'[k]?=some y->(x=zPlanEntry/\y=zPlanEntry)\/(LeE x y/\x.fMask=mk/\x.fOrder=(k:Int) - 1)
theorem MineLe.new (mk:Int):MineLe mk (List.replicate 5 zPlanEntry) (List.replicate 5 zPlanEntry) :=
 ⟨by simp,by simp,fun k x y hx hy=>.inl ⟨List.eq_of_mem_replicate (mem_of_at hx),List.eq_of_mem_replicate (mem_of_at hy)⟩⟩
theorem MineLe.set {mk:Int}{L L':List PlanEntryD}(h:MineLe mk L L') {k:Nat}{x y:PlanEntryD}(hxy:LeE x y) (hm:x.fMask=mk) (ho:x.fOrder=(k:Int) - 1):MineLe mk (L.set k x) (L'.set k y):=by
 refine⟨by simp [h.len],by simp [h.len'],fun j u v hu hv=>?_⟩;by_cases e:k=j
 ·subst e
  have l1:=lt_of_at hu;have l2:=lt_of_at hv;rw [List.length_set]at l1 l2;rw [List.getElem?_set_self l1]at hu;rw [List.getElem?_set_self l2]at hv;injection hu with hu;injection hv with hv;subst hu;subst hv;exact .inr ⟨hxy,hm,ho⟩
 ·rw [List.getElem?_set_ne e]at hu hv
  exact h.ok j u v hu hv
theorem set_same {L:List PlanEntryD}{k:Nat}{x:PlanEntryD}(h:L[k]?=some x):L.set k x=L:=by
 refine List.ext_getElem? fun j=>?_;by_cases e:k=j
 ·subst e;rw [List.getElem?_set_self (lt_of_at h),h]
 ·rw [List.getElem?_set_ne e]
theorem offerE_le (ha:admitted md=true) (hr:Rise s s') {mk:Int}(hmk:1<=mk) {L L':List PlanEntryD}(h:MineLe mk L L') {a a' b b':PlanEntryD}(hA:a.fMask=a'.fMask) (hAc:LeC a a') (hB:b.fMask=b'.fMask) (hBc:LeC b b') (hor:orI a.fMask b.fMask=mk) (kd v:Int) (k:Nat) :
  MineLe mk (offerE md s L a b kd v k) (offerE md s' L' a' b' kd v k):=by
 have hj:1<=joinCost md s a b kd/\joinCost md s a b kd<=joinCost md s' a' b' kd:=by
  have:=op_rise ha (opOf_mem md kd) hr a.fMask b.fMask (orI a.fMask b.fMask);obtain⟨a1,a2⟩:=hAc;obtain⟨b1,b2⟩:=hBc;unfold joinCost;rw [<- hA,<- hB];omega
 have hor':orI a'.fMask b'.fMask=mk:=by rw [<- hA,<- hB];exact hor
 unfold offerE;rw [hor,hor'];by_cases hk:k<5
 ·have hx:L[k]?=some (L[k]'(by have:=h.len;omega)):=List.getElem?_eq_getElem _
  have hy:L'[k]?=some (L'[k]'(by have:=h.len';omega)):=List.getElem?_eq_getElem _;generalize L[k]'(by have:=h.len;omega)=x at hx;generalize L'[k]'(by have:=h.len';omega)=y at hy;rw [hx,hy];show MineLe mk (if x.fMask=0\/joinCost md s a b kd<x.fCost then _ else L) (if y.fMask=0\/joinCost md s' a' b' kd<y.fCost then _ else L');rcases h.ok k x y hx hy with ⟨rfl,rfl⟩|⟨⟨e1,e2,e3,e4⟩,e5,e6⟩
  ·rw [if_pos (.inl rfl),if_pos (.inl rfl)]
   exact h.set ⟨rfl,rfl,hj.1,hj.2⟩ rfl rfl
  ·by_cases c1:joinCost md s a b kd<x.fCost<;>by_cases c2:joinCost md s' a' b' kd<y.fCost
   ·rw [if_pos (.inr c1),if_pos (.inr c2)]
    exact h.set ⟨rfl,rfl,hj.1,hj.2⟩ rfl rfl
   ·rw [if_pos (.inr c1),if_neg (by rintro(e|e)<;>omega)]
    have hL:L'=L'.set k y:=(set_same hy).symm;rw [hL];exact h.set ⟨by rw [<- e1];exact e5.symm,by rw [<- e2];exact e6.symm,hj.1,by show joinCost md s a b kd<=y.fCost;omega⟩ rfl rfl
   ·rw [if_neg (by rintro(e|e)<;>omega),if_pos (.inr c2)]
    have hL:L=L.set k x:=(set_same hx).symm;rw [hL];exact h.set ⟨e5,e6,e3,by show x.fCost<=joinCost md s' a' b' kd;omega⟩ e5 e6
   ·rw [if_neg (by rintro(e|e)<;>omega),if_neg (by rintro(e|e)<;>omega)]
    exact h
 ·have hx:L[k]?=none:=List.getElem?_eq_none (by have:=h.len;omega)
  have hy:L'[k]?=none:=List.getElem?_eq_none (by have:=h.len';omega);rw [hx,hy];exact h
theorem foldl_two {α β:Type}{R:β->β->Prop}{f g:β->α->β}{l:List α}(h:∀ x∈l,∀ a b,R a b->R (f a x) (g b x)) {a b:β}(hab:R a b):R (l.foldl f a) (l.foldl g b):=by
 induction l generalizing a b with
 | nil=>exact hab
 | cons x l ih=>exact ih (fun y hy=>h y (by simp [hy])) (h x (by simp) a b hab)
theorem nestE_le (ha:admitted md=true) (hr:Rise s s') {l l':List PlanEntryD}(h:LeL l l') {mk:Int}(hmk:1<=mk) {lf:Int}{b b':PlanEntryD}(hB:b.fMask=b'.fMask) (hBc:LeC b b') (hor:orI lf b.fMask=mk) {L L':List PlanEntryD}(hL:MineLe mk L L') (n:Nat) :
  MineLe mk (nestE md s l lf b n L) (nestE md s' l' lf b' n L'):=by
 induction n with
 | zero=>exact hL
 | succ n ih =>
  unfold nestE;have hf:=findE_le h lf ((n:Int) - 1);cases hx:findE l lf ((n:Int) - 1) with
  | none =>
   cases hy:findE l' lf ((n:Int) - 1) with
   | none=>exact ih
   | some y=>rw [hx,hy]at hf;exact hf.elim
  | some x =>
   cases hy:findE l' lf ((n:Int) - 1) with
   | none=>rw [hx,hy]at hf;exact hf.elim
   | some y =>
    rw [hx,hy]at hf;obtain⟨f1,f2,f3,f4⟩:=hf;exact offerE_le ha hr hmk ih f1 ⟨f3,f4⟩ hB hBc (by rw [(findE_mem hx).2.1];exact hor) 5 0 n
theorem splitE_le (ha:admitted md=true) (hr:Rise s s') {l l':List PlanEntryD}(h:LeL l l') {mk:Int}(hmk:1<=mk) {x:Int × List Int}{lf rt:Nat}(hx:SplOk l mk x lf rt) {L L':List PlanEntryD}(hL:MineLe mk L L'):MineLe mk (splitE md s l mk L x) (splitE md s' l' mk L' x):=by
 obtain⟨e1,e2,sd,⟨a,b1⟩,⟨b,b2⟩,vs⟩:=hx;have ka:=bestE_le h (lf:Int);have kb:=bestE_le h (rt:Int);rw [b1]at ka;rw [b2]at kb
 obtain⟨a',c1⟩:∃ a',bestE l' lf=some a':=by
  cases e:bestE l' (lf:Int) with
  | none=>rw [e]at ka;exact ka.elim
  | some y=>exact⟨y,rfl⟩
 obtain⟨b',c2⟩:∃ b',bestE l' rt=some b':=by
  cases e:bestE l' (rt:Int) with
  | none=>rw [e]at kb;exact kb.elim
  | some y=>exact⟨y,rfl⟩
 rw [c1]at ka;rw [c2]at kb;have ma:=(bestE_mem b1).2;have mb:=(bestE_mem b2).2;have ma':=(bestE_mem c1).2;have mb':=(bestE_mem c2).2;have hor:orI (lf:Int) (rt:Int)=mk:=by unfold orI;simp only [Int.toNat_natCast];exact sd.or
 unfold splitE;rw [e2,e1,b1,b2,c1,c2];show MineLe mk (mergeE md s l lf rt x.2 (nestE md s l lf b 5 (offerE md s L a b 3 0 0))) (mergeE md s' l' lf rt x.2 (nestE md s' l' lf b' 5 (offerE md s' L' a' b' 3 0 0)));have o1:=offerE_le ha hr hmk hL (a:=a) (a':=a') (b:=b) (b':=b') (by rw [ma,ma']) ka (by rw [mb,mb']) kb (by rw [ma,mb];exact hor) 3 0 0;have n1:=nestE_le ha hr h hmk (lf:=(lf:Int)) (b:=b) (b':=b') (by rw [mb,mb']) kb (by rw [mb];exact hor) o1 5;unfold mergeE;refine foldl_two (fun v hv A B hAB=>?_) n1;obtain⟨i1,i2⟩:=inputE_le ha hr h (v:=v) b1 c1;obtain⟨j1,j2⟩:=inputE_le ha hr h (v:=v) b2 c2
 exact offerE_le ha hr hmk hAB i1.1 i1.2.2 j1.1 j1.2.2 (by rw [i2,j2];exact hor) 4 v _
theorem LeL.of {l l':List PlanEntryD}(hl:l.length=l'.length) (h:∀ (k:Nat) (x y:PlanEntryD),l[k]?=some x->l'[k]?=some y->LeE x y):LeL l l':=by
 induction l generalizing l' with
 | nil=>cases l' with
  | nil=>trivial
  | cons y l'=>simp at hl
 | cons x l ih=>cases l' with
  | nil=>simp at hl
  | cons y l'=>exact⟨h 0 x y rfl rfl,ih (by simpa using hl) (fun k u v hu hv=>h (k+1) u v (by simpa using hu) (by simpa using hv))⟩
theorem mine_filter {mk:Int}(hmk:1<=mk):∀ {L L':List PlanEntryD},L.length=L'.length->(∀ (k:Nat) (x y:PlanEntryD),L[k]?=some x->L'[k]?=some y->(x=zPlanEntry/\y=zPlanEntry)\/(LeE x y/\x.fMask=mk))->LeL (L.filter (fun x=>decide (0<x.fMask))) (L'.filter (fun x=>decide (0<x.fMask)))
 | [],[],_,_=>trivial
 | [],_::_,h,_=>by simp at h
 | _::_,[],h,_=>by simp at h
 | x::L,y::L',hl,h=>by
  have ih:=mine_filter hmk (L:=L) (L':=L') (by simpa using hl) (fun k u v hu hv=>h (k+1) u v (by simpa using hu) (by simpa using hv));rcases h 0 x y rfl rfl with ⟨rfl,rfl⟩|⟨e,e2⟩
  ·rw [List.filter_cons_of_neg (by simp [zPlanEntry]),List.filter_cons_of_neg (by simp [zPlanEntry])];exact ih
  ·have e3:=e.1
   rw [List.filter_cons_of_pos (by simp;omega),List.filter_cons_of_pos (by simp;omega)];exact⟨e,ih⟩
theorem joinE_le (ha:admitted md=true) (hr:Rise s s') {l l':List PlanEntryD}(h:LeL l l') {mk:Int}(hmk:1<=mk) {sp:List (Int × List Int)}(hx:SplsOk l mk sp):LeL (joinE md s l mk sp) (joinE md s' l' mk sp):=by
 have hm:MineLe mk (mineE md s l mk sp) (mineE md s' l' mk sp):=by
  unfold mineE;refine foldl_two (fun x hm A B hAB=>?_) (MineLe.new mk);obtain⟨lf,rt,hs⟩:=hx x hm;exact splitE_le ha hr h hmk hs hAB
 unfold joinE;exact mine_filter hmk (by rw [hm.len,hm.len']) (fun k x y hx hy=>(hm.ok k x y hx hy).imp id (fun e=>⟨e.1,e.2.1⟩))
theorem tab_le (ha:admitted md=true) (hr:Rise s s') (hq:validQ q=true) {k:Nat}(hk:k<=(connMasks q).length):LeL (tabOf md q s ((connMasks q).take k)) (tabOf md q s' ((connMasks q).take k)):=by
 induction k with
 | zero=>simp [tabOf,LeL]
 | succ k ih =>
  have ih:=ih (by omega);have hm:(connMasks q)[k]?=some ((connMasks q)[k]'(by omega)):=List.getElem?_eq_getElem _;generalize (connMasks q)[k]'(by omega)=m at hm;obtain⟨⟨h1,h2⟩,_⟩:=connMasks_mem.1 (mem_of_at hm);rw [tabOf_snoc hm,tabOf_snoc hm];unfold tabStep;split
  ·have ho:=op_rise ha (o:=md.fScan) (by simp [modelOps]) hr m m m
   exact ih.app ⟨⟨rfl,rfl,ho.2.2.1,ho.2.2.2⟩,trivial⟩
  ·exact ih.app (joinE_le ha hr ih h1 (shape_ok hq hm (tab_ok hq md s (by omega))))
theorem rise_loc {l l':List Int}(hl:isLoc l=true) (hl':isLoc l'=true) (hd:dom l' l=true):Rise (locSizes l) (locSizes l'):=by
 intro m;obtain⟨e,hd⟩:=dom_at hd;have k1:=(isLoc_at hl).2;have k2:=(isLoc_at hl').2;unfold locSizes sizeAt;rw [if_pos hl,if_pos hl',List.getElem?_map,List.getElem?_map];cases h:l[m.toNat]? with
 | none =>
  have:l'[m.toNat]?=none:=by rw [List.getElem?_eq_none_iff]at h ⊢;omega
  rw [this];exact⟨0,0,by omega,by omega,rfl,rfl⟩
 | some x =>
  have hlt:=lt_of_at h;have h':l'[m.toNat]?=some (l'[m.toNat]'(by omega)):=List.getElem?_eq_getElem _;generalize l'[m.toNat]'(by omega)=y at h';rw [h'];have a1:=k1 _ _ h;have a2:=k2 _ _ h';have a3:=hd _ _ _ h' h;exact⟨x.toNat,y.toNat,by omega,by omega,by show clsSize x=_;rw [show((x.toNat:Nat):Int)=x by omega],by show clsSize y=_;rw [show((y.toNat:Nat):Int)=y by omega]⟩
theorem full_conn (hc:isConn q (fullMask q)=true):validQ q=true/\fullMask q∈connMasks q:=by
 have hc2:=hc;unfold isConn at hc2;simp only [Bool.and_eq_true]at hc2;have hq:=(maskOk_bd hc2.1).1;refine⟨hq,?_⟩
 have h1:1<=fullMask q:=by
  unfold fullMask;rw [if_pos hq];have:=(validQ_parts hq).2.2.1;have:(2:Nat) ^ 1<=2 ^ q.fAtoms.length:=Nat.pow_le_pow_right (by omega) (by omega);omega
 exact connMasks_mem.2 ⟨⟨h1,Int.le_refl _⟩,hc2.2.2⟩
theorem best_at (ha:admitted md=true) (hc:isConn q (fullMask q)=true) {l:List Int}(hl:isLoc l=true) (hn:(l.length:Int)=fullMask q+1) :
  bestE (tableE md q (locSizes l)) (fullMask q)=some (bestX md q (locSizes l))/\1<=(bestX md q (locSizes l)).fCost/\(bestX md q (locSizes l)).fCost<=1000000000000/\planCost md q (bestX md q (locSizes l)).fPlan (locSizes l)=(bestX md q (locSizes l)).fCost:=by
 obtain⟨hq,hf⟩:=full_conn hc;have hT:=tableE_ok hq md (locSizes l);obtain⟨x,hx,hxm⟩:=hT.all _ hf;obtain⟨y,hy⟩:=bestE_some hx hxm;have hb:bestX md q (locSizes l)=y:=by unfold bestX;rw [hy];rfl
 rw [hb];have hmem:=(bestE_mem hy).1
 have hd:dom l l=true:=by
  unfold dom;simp only [decide_true,Bool.true_and,List.all_eq_true,decide_eq_true_eq];intro p hp;obtain⟨k,hk⟩:=List.getElem?_of_mem hp;rw [List.getElem?_zip_eq_some]at hk;have e:p.1=p.2:=by have:=hk.1;rw [hk.2]at this;injection this with this;exact this.symm
  omega
 have hle:=tab_le (md:=md) (q:=q) ha (rise_loc hl hl hd) hq (k:=(connMasks q).length) (Nat.le_refl _);rw [List.take_length]at hle;have hc:=bestE_le hle (fullMask q);have hy':bestE (tabOf md q (locSizes l) (connMasks q)) (fullMask q)=some y:=hy;rw [hy']at hc;have hbd:=(hT.ok _ hmem).toInOk.bd
 have hs:isSizes q (locSizes l)=true:=by
  unfold isSizes locSizes;rw [hq,hl,if_pos rfl];simp only [Bool.true_and,Bool.and_eq_true,decide_eq_true_eq,List.length_map,List.all_eq_true];refine⟨hn,fun n hx=>?_⟩;obtain⟨c,hc,rfl⟩:=List.mem_map.1 hx;unfold isLoc at hl;simp only [Bool.and_eq_true,List.all_eq_true]at hl;have:=inR_t.1 (hl.1 c hc);exact inR_t.2 (clsSize_bd this.1 this.2)
 have hR:=(tab_R (md:=md) hs hq (sortUp ha hl) (k:=(connMasks q).length) (Nat.le_refl _)).1;rw [List.take_length]at hR;exact⟨hy,hc.1,by omega,EntR.cost (hR.ent _ hmem).1.toInR hs⟩
theorem optC_at (ha:admitted md=true) (hc:isConn q (fullMask q)=true) {l:List Int}(hl:isLoc l=true) (hn:(l.length:Int)=fullMask q+1):optC md q l=(bestX md q (locSizes l)).fCost:=by
 have hb:=(best_at ha hc hl hn).1
 have hs:isSizes q (locSizes l)=true:=by
  unfold isSizes locSizes;rw [(full_conn hc).1,hl,if_pos rfl];simp only [Bool.true_and,Bool.and_eq_true,decide_eq_true_eq,List.length_map,List.all_eq_true];refine⟨hn,fun n hx=>?_⟩;obtain⟨c,hc,rfl⟩:=List.mem_map.1 hx;unfold isLoc at hl;simp only [Bool.and_eq_true,List.all_eq_true]at hl;have:=inR_t.1 (hl.1 c hc);exact inR_t.2 (clsSize_bd this.1 this.2)
 unfold optC optV tabV;rw [ha,hs];show costV (bestE (tableE md q (locSizes l)) (fullMask q))=_;rw [hb];rfl
end
theorem idxOf_any {α:Type}(p:α->Bool) (l:List α):decide (0<=idxOf p l)=l.any p:=by
 unfold idxOf;cases hf:l.findIdx? p with
 | none =>
  rw [List.findIdx?_eq_none_iff]at hf;have:l.any p=false:=by rw [List.any_eq_false];intro x hx;simpa using hf x hx
  rw [this];rfl
 | some i =>
  rw [List.findIdx?_eq_some_iff_getElem]at hf;obtain⟨hi,hb,_⟩:=hf;have:l.any p=true:=by rw [List.any_eq_true];exact⟨l[i],List.getElem_mem hi,hb⟩
  rw [this];simp
attribute [local go_sem ↓] Go.wp_at_zero Go.wp_at_succ
theorem wpList_load_midP {P:Program}{ops:Array Oper}{rest:List Oper}{op:Oper}{a:Act}{w:World}{Q:Exit->Act->World->Prop}(ty:TypeId) (x:Operand) (ho:op.op=.load ty x)
  (b o:Nat) (hx:a.eval x=.pointer (some ⟨b,o,none⟩)) (cs:List Value) (d:TypeDesc) (hc:w.rangeAt b o cs)
  (hu:P.underlying ty=some d) (hd:d.isRow=true) (hi:(P.info? ty).map (·.size)=some cs.length)
  (hw:Region.wanted op (yielded ops a.tmps)=true) (h:wpList P ops Q rest (a.put op.dst (.agg cs.toArray)) w):wpList P ops Q (op::rest) a w :=
 wpList_step fun K hK=>by rw [if_pos hw];exact wp_load_mid ty x ho b o hx cs d hc hu hd hi (hK _ _ h)
theorem any_stepN {p:Int->Bool}{l:List Int}{k:Nat}{x:Int}(h:(l.take k).any p=false) (hx:l[k]?=some x) (hp:p x=false):(l.take (k+1)).any p=false:=by
 rw [take_snoc hx,List.any_append,h];simp [hp]
theorem any_yes {p:Int->Bool}{l:List Int}{k:Nat}{x:Int}(hx:l[k]?=some x) (hp:p x=true):l.any p=true:=List.any_eq_true.2 ⟨x,mem_of_at hx,hp⟩
theorem any_all {p:Int->Bool}{l:List Int}{k n:Nat}(h:(l.take k).any p=false) (hl:l.length=n) (hk:¬ k<n):l.any p=false:=by
 rw [List.take_of_length_le (by omega)]at h;exact h
theorem vb_bud0 {q:QueryD}{b:BouquetD}(h:validBouquet q b=true):0<b.fBudgets.length:=by
 unfold validBouquet at h;simp only [Bool.and_eq_true,decide_eq_true_eq]at h;exact h.1.2
theorem proved_snoc {m:ModelD}{q:QueryD}{b:BouquetD}{k:Nat}(h:(List.range k).all (provedAt m q b)=true) (hk:provedAt m q b k=true):(List.range (k+1)).all (provedAt m q b)=true:=by
 rw [List.range_succ,List.all_append,h];simp [hk]
theorem contourOf_bd (l:List Int) (c:Int):contourOf l c=-1\/∃ j:Nat,contourOf l c=j/\j<l.length:=by
 unfold contourOf;cases h:l.findIdx? (fun b=>decide (c<=b)) with
 | none=>exact .inl rfl
 | some i=>exact .inr ⟨i,rfl,(List.findIdx?_eq_some_iff_getElem.1 h).1⟩
theorem sCovered_c (csm:List Value) (m:ModelD) (csq:List Value) (q:QueryD) (csb:List Value) (b:BouquetD) (k:Int) (Al:Option Addr) (nl cl:Nat) (l:List Int) (w:World) (hm:(rModel NB).rep w csm m) (hq:(rQuery NB).rep w csq q) (hb:(rBouquet NB).rep w csb b) (hl:RS NB rInt w Al nl cl l) (hv:validBouquet q b=true) (hk0:0<=k) (hkn:k<b.fContours.length) :
  Calls Tryz.prog 109 #[.agg csm.toArray,.agg csq.toArray,.agg csb.toArray,.int .i64 k,.slice Al nl cl] w fun e w'=>e=.returned (.bool (coveredAt m q b l k))/\Below w.heap.size w w':=by
 obtain⟨k,rfl⟩:∃ n:Nat,k=n:=⟨k.toNat,by omega⟩;have rm:=hm;have lenm:=(rModel_ok NB).len hm;clear hm;have rq:=hq;obtain⟨Aq_e,nq_e,cq_e,rfl,hq_p5,hq_e⟩:=rQuery_rep.1 hq;clear hq;have rb:=hb;obtain⟨Ab_i,nb_i,cb_i,Ab_h,nb_h,cb_h,Ab_k,nb_k,cb_k,Ab_a4,nb_a4,cb_a4,Ab_w,nb_w,cb_w,rfl,hb_r5,hb_f4,hb_v4,hb_i,hb_h,hb_k,hb_a4,hb_w⟩:=rBouquet_rep.1 hb;clear hb;obtain⟨hB,bxm,bxq,bxb⟩:=op3 w csm 46 [.int .i64 q.fVariableCount,.slice Aq_e nq_e cq_e] 50 [.int .i64 b.fVersion,.int .i64 b.fRatio,.int .i64 b.fSlack,.slice Ab_i nb_i cb_i,.slice Ab_h nb_h cb_h,.slice Ab_k nb_k cb_k,.slice Ab_a4 nb_a4 cb_a4,.slice Ab_w nb_w cb_w] 90
 have lenm':csm.length=30:=lenm;clear lenm;obtain⟨_,hh,_,hbu,hco,hle⟩:=vbq_parts hv;have HSL:Hid (0<=b.fSlack/\b.fSlack<=100):=Lib.hid (bqHead_parts hh).2.1;have HBU:=Lib.hid hbu;have HCO:=Lib.hid hco;have HCL:=Lib.hid hb_w.len;have HPL:=Lib.hid hb_a4.len;have hnC:=hb_w.bound;have hnP:=hb_a4.bound;have HBL:Hid (nb_k=nb_w):=by show _=_;have:=hb_k.len;have:=HCL.out;omega
 have hkC:k<nb_w:=by have:=HCL.out;omega
 have hkB:k<nb_k:=by have:=HBL.out;omega
 have hkCI:(k:Int)<nb_w:=by omega
 have hkBI:(k:Int)<nb_k:=by omega
 have hnl:=hl.bound;clear hv hh hbu hco hle hkn hk0
 go_enter Tryz.func109,Tryz.ntmps109
 go_upto_region 1 with fail
 obtain⟨wb,hwb⟩:∃ W,W=((((((w).alloc (.cells csm.toArray 46))).alloc (.cells #[.int .i64 q.fVariableCount,.slice Aq_e nq_e cq_e] 50))).alloc (.cells #[.int .i64 b.fVersion,.int .i64 b.fRatio,.int .i64 b.fSlack,.slice Ab_i nb_i cb_i,.slice Ab_h nb_h cb_h,.slice Ab_k nb_k cb_k,.slice Ab_a4 nb_a4 cb_a4,.slice Ab_w nb_w cb_w] 90)):=⟨_,rfl⟩;rw [<- hwb]at hB bxm bxq bxb ⊢;clear hwb;have hBC:=hB;obtain⟨bB,oB,y,rfl,hcx,hIx,hx⟩:=hb_k.ati hkB;obtain⟨bC,oC,row,Ar,nr,cr,rfl,hcr,hRr,hr⟩:=hb_w.row hkC;have HX:=Lib.hid hx.out;clear hx;have HR:=Lib.hid hr.out;clear hr;obtain⟨s,hs⟩:∃ s,slackOf y b.fSlack=s:=⟨_,rfl⟩
 have hsb:=slack_bd (HBU.out k y HX.out) HSL.out;rw [hs]at hsb;have HS:=Lib.hid hs;clear hs;have HRL:=Lib.hid hRr.len;have hnr:=hRr.bound;have hRp:Hid (∀ p∈row,0<=p/\p<(nb_a4:Int)):=by show ∀ p∈row,_;intro p hp;have:=HCO.out row (mem_of_at HR.out) p hp;rw [HPL.out]at this;exact this
 obtain⟨P,hP⟩:∃ P:Int->Bool,(fun p=>decide (costAt m q b.fPlans l p<=s))=P:=⟨_,rfl⟩;have HP0:=Lib.hid hP
 have HCV:Hid (coveredAt m q b l (k:Int)=row.any P):=by
  show _=_;unfold coveredAt;rw [Int.toNat_natCast,HX.out,HR.out,<- hP,<- HS.out];rfl
 clear hP
 have K1:Hid (∀ W,Calls Tryz.prog 170 #[.int .i64 y,.int .i64 b.fSlack] W fun e w'=>e=.returned (.int .i64 s)/\w'=W):=by
  show ∀ W,_;exact fun W=>sSlackBudget_w HS.out W
 have HCC:Hid (∀ w',Below wb.heap.size wb w'->(w'.rangeAt w.heap.size 0 csm/\w'.cell? ⟨w.heap.size+1,0,none⟩=some (.int .i64 q.fVariableCount)/\w'.cell? ⟨w.heap.size+1,1,none⟩=some (.slice Aq_e nq_e cq_e)/\w'.cell? ⟨w.heap.size+1+1,5,none⟩=some (.slice (some ⟨bB,oB,none⟩) nb_k cb_k)/\w'.cell? ⟨w.heap.size+1+1,2,none⟩=some (.int .i64 b.fSlack)/\w'.cell? ⟨bB,oB+k,none⟩=some (.int .i64 y)/\w'.cell? ⟨w.heap.size+1+1,7,none⟩=some (.slice (some ⟨bC,oC,none⟩) nb_w cb_w)/\w'.cell? ⟨bC,oC+k,none⟩=some (.slice Ar nr cr)/\w'.cell? ⟨w.heap.size+1+1,6,none⟩=some (.slice Ab_a4 nb_a4 cb_a4))):=by
  show ∀ w',_->_;intro w' hz;have hZ:=hBC.trans (hz.mono hBC.size);exact⟨(bxm.below hz).range,(bxq.below hz) 0 _ rfl,(bxq.below hz) 1 _ rfl,(bxb.below hz) 5 _ rfl,(bxb.below hz) 2 _ rfl,cells_below hZ _ _ hcx,(bxb.below hz) 7 _ rfl,cells_below hZ _ _ hcr,(bxb.below hz) 6 _ rfl⟩
 clear hcx hcr;go_wp2
 go_loopw [11] (fun iv wr=>∃ t:Nat,t<=nr/\iv=.int .i64 (t:Int)/\(row.take t).any P=false/\Below wb.heap.size wb wr) (fun iv _=>nr - (intOf iv).toNat)
 case atStart=>exact⟨0,Nat.zero_le _,rfl,by simp,Below.refl _ _⟩
 case round =>
  obtain⟨t,ht,rfl,hno,hE⟩:=hrel;have HNO:=Lib.hid hno;clear hno;have ⟨a0,a1,a2,a3,a4,a5,a6,a7,a8⟩:=HCC.out _ hE;by_cases hlt2:t<nr
  ·have hltI:(t:Int)<nr:=by omega
   obtain⟨bR,oR,pn,rfl,hcp,hIp,hp⟩:=hRr.ati hlt2;have HP:=Lib.hid hp.out;clear hp;have hpb:=hRp.out pn (mem_of_at HP.out);obtain⟨j,rfl⟩:∃ j:Nat,pn=j:=⟨pn.toNat,by omega⟩;have hj:j<nb_a4:=by omega
   have hjI:(j:Int)<(nb_a4:Int):=by omega
   obtain⟨bP,oP,PL,AP,nP,cP,rfl,hcP,hRP,hPX⟩:=hb_a4.planP hj;obtain⟨c,hc⟩:∃ c,costAt m q b.fPlans l (j:Int)=c:=⟨_,rfl⟩;have HC:=Lib.hid hc;have hcb:-28000000000<=c/\c<=28000000000:=by rw [<- hc,costAtN hPX.out];exact planCost_bd _ _ _ _
   have K2:Hid (∀ W,Below wb.heap.size wb W->Calls Tryz.prog 37 #[.agg csm.toArray,.agg #[.int .i64 q.fVariableCount,.slice Aq_e nq_e cq_e],.agg #[.slice AP nP cP],.slice Al nl cl] W fun e w'=>e=.returned (.int .i64 c)/\Below W.heap.size W w'):=by
    show ∀ W,_->_;intro W hW;have hX:=hBC.trans (hW.mono hBC.size);rw [<- hc,costAtN hPX.out];exact sPlanCostAt_c _ m _ q _ PL _ _ _ l W ((rModel_ok NB).keep rm (cells_below hX)) ((rQuery_ok NB).keep rq (cells_below hX)) (rPlan_rep.2 ⟨_,_,_,rfl,hRP.below (rPlanStep_ok NB) hX⟩) (hl.below rInt_ok hX)
   clear hc hPX
   have HSS:Hid (∀ w',Below wr.heap.size wr w'->(w'.rangeAt w.heap.size 0 csm/\w'.cell? ⟨w.heap.size+1,0,none⟩=some (.int .i64 q.fVariableCount)/\w'.cell? ⟨w.heap.size+1,1,none⟩=some (.slice Aq_e nq_e cq_e)/\w'.cell? ⟨w.heap.size+1+1,6,none⟩=some (.slice (some ⟨bP,oP,none⟩) nb_a4 cb_a4)/\w'.cell? ⟨bP,oP+j,none⟩=some (.slice AP nP cP)/\w'.cell? ⟨w.heap.size+1+1,7,none⟩=some (.slice (some ⟨bC,oC,none⟩) nb_w cb_w)/\w'.cell? ⟨bC,oC+k,none⟩=some (.slice (some ⟨bR,oR,none⟩) nr cr)/\w'.cell? ⟨bR,oR+t,none⟩=some (.int .i64 (j:Int))/\w'.cell? ⟨w.heap.size+1+1,5,none⟩=some (.slice (some ⟨bB,oB,none⟩) nb_k cb_k)/\w'.cell? ⟨bB,oB+k,none⟩=some (.int .i64 y)/\w'.cell? ⟨w.heap.size+1+1,2,none⟩=some (.int .i64 b.fSlack))):=by
    show ∀ w',_->_;intro w' hb;have hz:=hE.trans (hb.mono hE.size);have hZ:=hBC.trans (hz.mono hBC.size);obtain⟨a0,a1,a2,a3,a4,a5,a6,a7,a8⟩:=HCC.out _ hz;exact⟨a0,a1,a2,a8,cells_below hZ _ _ hcP,a6,a7,cells_below hZ _ _ hcp,a3,a5,a4⟩
   have hd0:=hE.trans ((Below.refl wr.heap.size wr).drew.mono hE.size);clear hcp hcP;go_wp2;clear a0 a1 a2 a3 a4 a5 a6 a7 a8;refine hbg HSS.out (Below.refl _ _).drew (fun hH=>?_);refine ldm 0 22 (fun w h=>h.1) Tryz.underlying46 (by rw [lenm'];exact sizeModelT) hH ?_;simp only [putS];refine tq4 1 hH ?_;simp only [putS];refine tq4 5 hH ?_;simp only [putS];refine tq4 9 hH ?_;simp only [putS];refine tq2 13 hH ?_;simp only [putS];refine tq4 16 hH ?_;simp only [putS];refine tq2 20 hH ?_;refine tq1 22 hH ?_;simp only [putS];refine rd 15 (some 37) fun K hK=>?_;clear hH;go_simp;refine(K2.out _ hd0).mono ?_
   rintro e w2 ⟨rfl,hb2⟩;have hC:Below wr.heap.size wr w2:=((Below.refl wr.heap.size wr).drew.trans (hb2.mono (by simp)))
   go_wp2_with fail
   refine hK.out _ _ (HSS.out _ hC) (fun hH=>?_);clear hK K
   try simp only [putS]
   refine rd 23 (some 45) fun K hK=>?_;clear hH;go_simp;refine(K1.out _).mono ?_;rintro e w' ⟨rfl,rfl⟩
   go_wp2_with fail
   refine hK.out _ _ (HSS.out _ hC) (fun hH=>?_);clear hK K
   try simp only [putS]
   refine tq1 24 hH ?_;simp only [putS];refine wpAnyH_done (by kernel_rfl) ?_ _;clear hH;have hE4:=hE.trans (hC.mono hE.size);clear HSS K2 hd0 hb2;by_cases hcs:c<=s
   ·have hcsd:decide (c<=s)=true:=decide_eq_true hcs
    have HY:Hid (coveredAt m q b l (k:Int)=true):=by
     show _=_;rw [HCV.out];exact any_yes HP.out (by rw [<- HP0.out];simp only [HC.out];exact hcsd)
    go_wp2;go_ret;exact⟨ret_bool HY.out.symm,hBC.trans (hE4.mono hBC.size)⟩
   ·have hcsd:decide (c<=s)=false:=decide_eq_false hcs
    have HY:Hid ((row.take (t+1)).any P=false):=Lib.hid (any_stepN HNO.out HP.out (by rw [<- HP0.out];simp only [HC.out];exact hcsd));go_wp2;go_roundw
    case rel=>exact⟨t+1,by omega,by go_num,HY.out,hE4⟩
    case measure=>simp [intOf];omega
  ·have hltI:¬ (t:Int)<nr:=by omega
   have HY:Hid (coveredAt m q b l (k:Int)=false):=by show _=_;rw [HCV.out];exact any_all HNO.out HRL.out hlt2
   go_wp2;go_ret;exact⟨ret_bool HY.out.symm,hBC.trans (hE.mono hBC.size)⟩
theorem sIsProvedBouquet_c (csm:List Value) (m:ModelD) (csq:List Value) (q:QueryD) (csb:List Value) (b:BouquetD) (w:World) (hm:(rModel NB).rep w csm m) (hq:(rQuery NB).rep w csq q) (hb:(rBouquet NB).rep w csb b) :
  Calls Tryz.prog 43 #[.agg csm.toArray,.agg csq.toArray,.agg csb.toArray] w fun e w'=>e=.returned (.bool (provedB m q b))/\Below w.heap.size w w':=by
 have rm:=hm;have lenm:=(rModel_ok NB).len hm;clear hm;have rq:=hq;obtain⟨Aq_e,nq_e,cq_e,rfl,hq_p5,hq_e⟩:=rQuery_rep.1 hq;clear hq;have rb:=hb;obtain⟨Ab_i,nb_i,cb_i,Ab_h,nb_h,cb_h,Ab_k,nb_k,cb_k,Ab_a4,nb_a4,cb_a4,Ab_w,nb_w,cb_w,rfl,hb_r5,hb_f4,hb_v4,hb_i,hb_h,hb_k,hb_a4,hb_w⟩:=rBouquet_rep.1 hb;clear hb;obtain⟨hB,bxm,bxq,bxb⟩:=op3 w csm 46 [.int .i64 q.fVariableCount,.slice Aq_e nq_e cq_e] 50 [.int .i64 b.fVersion,.int .i64 b.fRatio,.int .i64 b.fSlack,.slice Ab_i nb_i cb_i,.slice Ab_h nb_h cb_h,.slice Ab_k nb_k cb_k,.slice Ab_a4 nb_a4 cb_a4,.slice Ab_w nb_w cb_w] 90;have lenm':csm.length=30:=lenm
 clear lenm;have hnBu:=hb_k.bound;have HBD:=Lib.hid hb_k.len;have HCL:=Lib.hid hb_w.len;obtain⟨F,hF⟩:∃ v,fullMask q=v:=⟨_,rfl⟩;have hF15:-1<=F/\F<=15:=by rw [<- hF];exact⟨by unfold fullMask;split<;>(have:=Nat.one_le_two_pow (n:=q.fAtoms.length);omega),fm15 q⟩
 obtain⟨v1,hv1⟩:∃ v,admitted m=v:=⟨_,rfl⟩;obtain⟨v2,hv2⟩:∃ v,validBouquet q b=v:=⟨_,rfl⟩;obtain⟨v3,hv3⟩:∃ v,isConn q F=v:=⟨_,rfl⟩;obtain⟨op,hop⟩:∃ v,optC m q b.fBox.fLow=v:=⟨_,rfl⟩;obtain⟨y0,hy0⟩:∃ v,(b.fBudgets[0]?).getD 0=v:=⟨_,rfl⟩;have HN:Hid (provedB m q b=(v2&&(v3&&v1)&&(decide (y0<=op)&&(List.range (boxVol b.fBox).toNat).all (provedAt m q b)))):=by show _=_;unfold provedB okBouquet;rw [hv1,hv2,hF,hv3,hy0,hop]
 have HF:=Lib.hid hF;have HV1:=Lib.hid hv1;have HV2:=Lib.hid hv2;have HV3:=Lib.hid hv3;have HOP:=Lib.hid hop;have HY0:=Lib.hid hy0;clear hF hv1 hv2 hv3 hop hy0
 go_enter Tryz.func43,Tryz.ntmps43
 go_upto_region 1 with fail
 obtain⟨wb,hwb⟩:∃ W,W=((((((w).alloc (.cells csm.toArray 46))).alloc (.cells #[.int .i64 q.fVariableCount,.slice Aq_e nq_e cq_e] 50))).alloc (.cells #[.int .i64 b.fVersion,.int .i64 b.fRatio,.int .i64 b.fSlack,.slice Ab_i nb_i cb_i,.slice Ab_h nb_h cb_h,.slice Ab_k nb_k cb_k,.slice Ab_a4 nb_a4 cb_a4,.slice Ab_w nb_w cb_w] 90)):=⟨_,rfl⟩;rw [<- hwb]at hB bxm bxq bxb ⊢;clear hwb
 have HSS:Hid (∀ w',Below wb.heap.size wb w'->(w'.rangeAt w.heap.size 0 csm/\w'.cell? ⟨w.heap.size+1,0,none⟩=some (.int .i64 q.fVariableCount)/\w'.cell? ⟨w.heap.size+1,1,none⟩=some (.slice Aq_e nq_e cq_e)/\w'.cell? ⟨w.heap.size+1+1,0,none⟩=some (.int .i64 b.fVersion)/\w'.cell? ⟨w.heap.size+1+1,1,none⟩=some (.int .i64 b.fRatio)/\w'.cell? ⟨w.heap.size+1+1,2,none⟩=some (.int .i64 b.fSlack)/\w'.cell? ⟨w.heap.size+1+1,3,none⟩=some (.slice Ab_i nb_i cb_i)/\w'.cell? ⟨w.heap.size+1+1,4,none⟩=some (.slice Ab_h nb_h cb_h)/\w'.cell? ⟨w.heap.size+1+1,5,none⟩=some (.slice Ab_k nb_k cb_k)/\w'.cell? ⟨w.heap.size+1+1,6,none⟩=some (.slice Ab_a4 nb_a4 cb_a4)/\w'.cell? ⟨w.heap.size+1+1,7,none⟩=some (.slice Ab_w nb_w cb_w))):=by
  show ∀ w',_->_;intro w' hb;exact⟨(bxm.below hb).range,(bxq.below hb) 0 _ rfl,(bxq.below hb) 1 _ rfl,(bxb.below hb) 0 _ rfl,(bxb.below hb) 1 _ rfl,(bxb.below hb) 2 _ rfl,(bxb.below hb) 3 _ rfl,(bxb.below hb) 4 _ rfl,(bxb.below hb) 5 _ rfl,(bxb.below hb) 6 _ rfl,(bxb.below hb) 7 _ rfl⟩
 have hd0:=(Below.refl wb.heap.size wb).drew;cases v1
 ·refine hbg HSS.out (Below.refl _ _).drew (fun hH=>?_)
  refine ldm 0 15 (fun w h=>h.1) Tryz.underlying46 (by rw [lenm'];exact sizeModelT) hH ?_;simp only [putS];refine rd 1 (some 16) fun K hK=>?_;clear hH;go_simp;refine(sIsAdmitted_c _ m _ ((rModel_ok NB).keep rm (cells_below (hB.trans (hd0.mono hB.size))))).mono ?_;rintro e u1 ⟨rfl,hb1⟩;rw [HV1.out];have hC1:Below wb.heap.size wb u1:=hd0.trans (hb1.mono hd0.size)
  go_wp2_with fail
  refine hK.out _ _ (HSS.out _ hC1) (fun hH=>?_);clear hK K
  try simp only [putS]
  refine tq2 2 hH ?_;simp only [putS];refine tr4 4 hH ?_;simp only [putS];refine tq2 8 hH ?_;simp only [putS];refine tr4 10 hH ?_;simp only [putS];refine tr1 14 hH ?_;refine tq2 15 hH ?_;simp only [putS];refine tr4 17 hH ?_;simp only [putS];refine tr4 21 hH ?_;simp only [putS];refine tr2 25 hH ?_;refine tr1 27 hH ?_;refine tq1 28 hH ?_;simp only [putS];refine wpAnyH_done (by kernel_rfl) ?_ _;clear hH;have HQ:Hid (provedB m q b=false):=by show _=_;rw [HN.out];simp
  go_wp2;go_ret;exact⟨ret_bool HQ.out.symm,hB.trans (hC1.mono hB.size)⟩
 cases v2
 ·refine hbg HSS.out (Below.refl _ _).drew (fun hH=>?_)
  refine ldm 0 15 (fun w h=>h.1) Tryz.underlying46 (by rw [lenm'];exact sizeModelT) hH ?_;simp only [putS];refine rd 1 (some 16) fun K hK=>?_;clear hH;go_simp;refine(sIsAdmitted_c _ m _ ((rModel_ok NB).keep rm (cells_below (hB.trans (hd0.mono hB.size))))).mono ?_;rintro e u1 ⟨rfl,hb1⟩;rw [HV1.out];have hC1:Below wb.heap.size wb u1:=hd0.trans (hb1.mono hd0.size)
  go_wp2_with fail
  refine hK.out _ _ (HSS.out _ hC1) (fun hH=>?_);clear hK K
  try simp only [putS]
  refine tq4 2 hH ?_;simp only [putS];refine rd 6 (some 21) fun K hK=>?_;clear hH;go_simp;refine(sIsValidBouquet_c _ q _ b _ ((rQuery_ok NB).keep rq (cells_below (hB.trans (hC1.mono hB.size)))) ((rBouquet_ok NB).keep rb (cells_below (hB.trans (hC1.mono hB.size))))).mono ?_;rintro e u2 ⟨rfl,hb2⟩;rw [HV2.out];have hC2:Below wb.heap.size wb u2:=hC1.trans (hb2.mono hC1.size)
  go_wp2_with fail
  refine hK.out _ _ (HSS.out _ hC2) (fun hH=>?_);clear hK K
  try simp only [putS]
  refine tq2 7 hH ?_;refine tq1 9 hH ?_;simp only [putS];refine tr4 10 hH ?_;simp only [putS];refine tr1 14 hH ?_;refine tq2 15 hH ?_;simp only [putS];refine tr4 17 hH ?_;simp only [putS];refine tr4 21 hH ?_;simp only [putS];refine tr2 25 hH ?_;refine tr1 27 hH ?_;refine tq1 28 hH ?_;simp only [putS];refine wpAnyH_done (by kernel_rfl) ?_ _;clear hH;have HQ:Hid (provedB m q b=false):=by show _=_;rw [HN.out];simp
  go_wp2;go_ret;exact⟨ret_bool HQ.out.symm,hB.trans (hC2.mono hB.size)⟩
 cases v3
 ·refine hbg HSS.out (Below.refl _ _).drew (fun hH=>?_)
  refine ldm 0 15 (fun w h=>h.1) Tryz.underlying46 (by rw [lenm'];exact sizeModelT) hH ?_;simp only [putS];refine rd 1 (some 16) fun K hK=>?_;clear hH;go_simp;refine(sIsAdmitted_c _ m _ ((rModel_ok NB).keep rm (cells_below (hB.trans (hd0.mono hB.size))))).mono ?_;rintro e u1 ⟨rfl,hb1⟩;rw [HV1.out];have hC1:Below wb.heap.size wb u1:=hd0.trans (hb1.mono hd0.size)
  go_wp2_with fail
  refine hK.out _ _ (HSS.out _ hC1) (fun hH=>?_);clear hK K
  try simp only [putS]
  refine tq4 2 hH ?_;simp only [putS];refine rd 6 (some 21) fun K hK=>?_;clear hH;go_simp;refine(sIsValidBouquet_c _ q _ b _ ((rQuery_ok NB).keep rq (cells_below (hB.trans (hC1.mono hB.size)))) ((rBouquet_ok NB).keep rb (cells_below (hB.trans (hC1.mono hB.size))))).mono ?_;rintro e u2 ⟨rfl,hb2⟩;rw [HV2.out];have hC2:Below wb.heap.size wb u2:=hC1.trans (hb2.mono hC1.size)
  go_wp2_with fail
  refine hK.out _ _ (HSS.out _ hC2) (fun hH=>?_);clear hK K
  try simp only [putS]
  refine tq4 7 hH ?_;simp only [putS];refine tq1 11 hH ?_;simp only [putS];refine rd 12 (some 27) fun K hK=>?_;clear hH;go_simp;refine(sFullMask_c _ q _ ((rQuery_ok NB).keep rq (cells_below (hB.trans (hC2.mono hB.size))))).mono ?_;rintro e u3 ⟨rfl,hb3⟩;rw [HF.out];have hC3:Below wb.heap.size wb u3:=hC2.trans (hb3.mono hC2.size)
  go_wp2_with fail
  refine hK.out _ _ (HSS.out _ hC3) (fun hH=>?_);clear hK K
  try simp only [putS]
  refine rd 13 (some 28) fun K hK=>?_;clear hH;go_simp;refine(sIsConnected_c _ q F _ ((rQuery_ok NB).keep rq (cells_below (hB.trans (hC3.mono hB.size))))).mono ?_;rintro e u4 ⟨rfl,hb4⟩;rw [HV3.out];have hC4:Below wb.heap.size wb u4:=hC3.trans (hb4.mono hC3.size)
  go_wp2_with fail
  refine hK.out _ _ (HSS.out _ hC4) (fun hH=>?_);clear hK K
  try simp only [putS]
  refine tq2 14 hH ?_;refine tq1 16 hH ?_;simp only [putS];refine tr4 17 hH ?_;simp only [putS];refine tr4 21 hH ?_;simp only [putS];refine tr2 25 hH ?_;refine tr1 27 hH ?_;refine tq1 28 hH ?_;simp only [putS];refine wpAnyH_done (by kernel_rfl) ?_ _;clear hH;have HQ:Hid (provedB m q b=false):=by show _=_;rw [HN.out];simp
  go_wp2;go_ret;exact⟨ret_bool HQ.out.symm,hB.trans (hC4.mono hB.size)⟩
 have hbud0:0<nb_k:=by have:=vb_bud0 HV2.out;have:=HBD.out;omega
 obtain⟨bB,oB,y,rfl,hcx,hIx,hx⟩:=hb_k.ati hbud0;have HYY:Hid (y=y0):=by show _=_;have h:=HY0.out;rw [hx.out]at h;exact h
 rw [HYY.out]at hcx;rw [Nat.add_zero]at hcx;have hbud0I:(0:Int)<nb_k:=by omega
 clear hx hIx
 have HSS2:Hid (∀ w',Below wb.heap.size wb w'->(w'.rangeAt w.heap.size 0 csm/\w'.cell? ⟨w.heap.size+1,0,none⟩=some (.int .i64 q.fVariableCount)/\w'.cell? ⟨w.heap.size+1,1,none⟩=some (.slice Aq_e nq_e cq_e)/\w'.cell? ⟨w.heap.size+1+1,0,none⟩=some (.int .i64 b.fVersion)/\w'.cell? ⟨w.heap.size+1+1,1,none⟩=some (.int .i64 b.fRatio)/\w'.cell? ⟨w.heap.size+1+1,2,none⟩=some (.int .i64 b.fSlack)/\w'.cell? ⟨w.heap.size+1+1,3,none⟩=some (.slice Ab_i nb_i cb_i)/\w'.cell? ⟨w.heap.size+1+1,4,none⟩=some (.slice Ab_h nb_h cb_h)/\w'.cell? ⟨w.heap.size+1+1,5,none⟩=some (.slice (some ⟨bB,oB,none⟩) nb_k cb_k)/\w'.cell? ⟨w.heap.size+1+1,6,none⟩=some (.slice Ab_a4 nb_a4 cb_a4)/\w'.cell? ⟨w.heap.size+1+1,7,none⟩=some (.slice Ab_w nb_w cb_w)/\w'.cell? ⟨bB,oB,none⟩=some (.int .i64 y0))):=by
  show ∀ w',_->_;intro w' hb;exact⟨(bxm.below hb).range,(bxq.below hb) 0 _ rfl,(bxq.below hb) 1 _ rfl,(bxb.below hb) 0 _ rfl,(bxb.below hb) 1 _ rfl,(bxb.below hb) 2 _ rfl,(bxb.below hb) 3 _ rfl,(bxb.below hb) 4 _ rfl,(bxb.below hb) 5 _ rfl,(bxb.below hb) 6 _ rfl,(bxb.below hb) 7 _ rfl,cells_below (hB.trans (hb.mono hB.size)) _ _ hcx⟩
 clear HSS;by_cases hlow:op<y0
 ·have hlowd:decide (op<y0)=true:=decide_eq_true hlow
  refine hbg HSS2.out (Below.refl _ _).drew (fun hH=>?_);refine ldm 0 15 (fun w h=>h.1) Tryz.underlying46 (by rw [lenm'];exact sizeModelT) hH ?_;simp only [putS];refine rd 1 (some 16) fun K hK=>?_;clear hH;go_simp;refine(sIsAdmitted_c _ m _ ((rModel_ok NB).keep rm (cells_below (hB.trans (hd0.mono hB.size))))).mono ?_;rintro e u1 ⟨rfl,hb1⟩;rw [HV1.out];have hC1:Below wb.heap.size wb u1:=hd0.trans (hb1.mono hd0.size)
  go_wp2_with fail
  refine hK.out _ _ (HSS2.out _ hC1) (fun hH=>?_);clear hK K
  try simp only [putS]
  refine tq4 2 hH ?_;simp only [putS];refine rd 6 (some 21) fun K hK=>?_;clear hH;go_simp;refine(sIsValidBouquet_c _ q _ b _ ((rQuery_ok NB).keep rq (cells_below (hB.trans (hC1.mono hB.size)))) ((rBouquet_ok NB).keep rb (cells_below (hB.trans (hC1.mono hB.size))))).mono ?_;rintro e u2 ⟨rfl,hb2⟩;rw [HV2.out];have hC2:Below wb.heap.size wb u2:=hC1.trans (hb2.mono hC1.size)
  go_wp2_with fail
  refine hK.out _ _ (HSS2.out _ hC2) (fun hH=>?_);clear hK K
  try simp only [putS]
  refine tq4 7 hH ?_;simp only [putS];refine tq1 11 hH ?_;simp only [putS];refine rd 12 (some 27) fun K hK=>?_;clear hH;go_simp;refine(sFullMask_c _ q _ ((rQuery_ok NB).keep rq (cells_below (hB.trans (hC2.mono hB.size))))).mono ?_;rintro e u3 ⟨rfl,hb3⟩;rw [HF.out];have hC3:Below wb.heap.size wb u3:=hC2.trans (hb3.mono hC2.size)
  go_wp2_with fail
  refine hK.out _ _ (HSS2.out _ hC3) (fun hH=>?_);clear hK K
  try simp only [putS]
  refine rd 13 (some 28) fun K hK=>?_;clear hH;go_simp;refine(sIsConnected_c _ q F _ ((rQuery_ok NB).keep rq (cells_below (hB.trans (hC3.mono hB.size))))).mono ?_;rintro e u4 ⟨rfl,hb4⟩;rw [HV3.out];have hC4:Below wb.heap.size wb u4:=hC3.trans (hb4.mono hC3.size)
  go_wp2_with fail
  refine hK.out _ _ (HSS2.out _ hC4) (fun hH=>?_);clear hK K
  try simp only [putS]
  refine tq2 14 hH ?_;refine tq1 16 hH ?_;refine ldm 17 32 (fun w h=>h.1) Tryz.underlying46 (by rw [lenm'];exact sizeModelT) hH ?_;simp only [putS];refine tq4 18 hH ?_;simp only [putS];refine tq4 23 hH ?_;simp only [putS];refine rd 22 (some 37) fun K hK=>?_;clear hH;go_simp;refine(sOptimalCostAt_c _ m _ q _ _ _ b.fBox.fLow _ ((rModel_ok NB).keep rm (cells_below (hB.trans (hC4.mono hB.size)))) ((rQuery_ok NB).keep rq (cells_below (hB.trans (hC4.mono hB.size)))) (hb_i.below rInt_ok (hB.trans (hC4.mono hB.size)))).mono ?_;rintro e u5 ⟨rfl,hb5⟩;rw [HOP.out];have hC5:Below wb.heap.size wb u5:=hC4.trans (hb5.mono hC4.size)
  go_wp2_with fail
  refine hK.out _ _ (HSS2.out _ hC5) (fun hH=>?_);clear hK K
  try simp only [putS]
  refine tq2 27 hH ?_;simp only [putS];refine wpAnyH_done (by kernel_rfl) ?_ _;clear hH;have HQ:Hid (provedB m q b=false):=by show _=_;rw [HN.out];simp;intro h;omega
  go_wp2;go_ret;exact⟨ret_bool HQ.out.symm,hB.trans (hC5.mono hB.size)⟩
 have hlowd:decide (op<y0)=false:=decide_eq_false hlow;refine hbg HSS2.out (Below.refl _ _).drew (fun hH=>?_);refine ldm 0 15 (fun w h=>h.1) Tryz.underlying46 (by rw [lenm'];exact sizeModelT) hH ?_;simp only [putS];refine rd 1 (some 16) fun K hK=>?_;clear hH;go_simp;refine(sIsAdmitted_c _ m _ ((rModel_ok NB).keep rm (cells_below (hB.trans (hd0.mono hB.size))))).mono ?_;rintro e u1 ⟨rfl,hb1⟩;rw [HV1.out];have hC1:Below wb.heap.size wb u1:=hd0.trans (hb1.mono hd0.size)
 go_wp2_with fail
 refine hK.out _ _ (HSS2.out _ hC1) (fun hH=>?_);clear hK K
 try simp only [putS]
 refine tq4 2 hH ?_;simp only [putS];refine rd 6 (some 21) fun K hK=>?_;clear hH;go_simp;refine(sIsValidBouquet_c _ q _ b _ ((rQuery_ok NB).keep rq (cells_below (hB.trans (hC1.mono hB.size)))) ((rBouquet_ok NB).keep rb (cells_below (hB.trans (hC1.mono hB.size))))).mono ?_;rintro e u2 ⟨rfl,hb2⟩;rw [HV2.out];have hC2:Below wb.heap.size wb u2:=hC1.trans (hb2.mono hC1.size)
 go_wp2_with fail
 refine hK.out _ _ (HSS2.out _ hC2) (fun hH=>?_);clear hK K
 try simp only [putS]
 refine tq4 7 hH ?_;simp only [putS];refine tq1 11 hH ?_;simp only [putS];refine rd 12 (some 27) fun K hK=>?_;clear hH;go_simp;refine(sFullMask_c _ q _ ((rQuery_ok NB).keep rq (cells_below (hB.trans (hC2.mono hB.size))))).mono ?_;rintro e u3 ⟨rfl,hb3⟩;rw [HF.out];have hC3:Below wb.heap.size wb u3:=hC2.trans (hb3.mono hC2.size)
 go_wp2_with fail
 refine hK.out _ _ (HSS2.out _ hC3) (fun hH=>?_);clear hK K
 try simp only [putS]
 refine rd 13 (some 28) fun K hK=>?_;clear hH;go_simp;refine(sIsConnected_c _ q F _ ((rQuery_ok NB).keep rq (cells_below (hB.trans (hC3.mono hB.size))))).mono ?_;rintro e u4 ⟨rfl,hb4⟩;rw [HV3.out];have hC4:Below wb.heap.size wb u4:=hC3.trans (hb4.mono hC3.size)
 go_wp2_with fail
 refine hK.out _ _ (HSS2.out _ hC4) (fun hH=>?_);clear hK K
 try simp only [putS]
 refine tq2 14 hH ?_;refine tq1 16 hH ?_;refine ldm 17 32 (fun w h=>h.1) Tryz.underlying46 (by rw [lenm'];exact sizeModelT) hH ?_;simp only [putS];refine tq4 18 hH ?_;simp only [putS];refine tq4 23 hH ?_;simp only [putS];refine rd 22 (some 37) fun K hK=>?_;clear hH;go_simp;refine(sOptimalCostAt_c _ m _ q _ _ _ b.fBox.fLow _ ((rModel_ok NB).keep rm (cells_below (hB.trans (hC4.mono hB.size)))) ((rQuery_ok NB).keep rq (cells_below (hB.trans (hC4.mono hB.size)))) (hb_i.below rInt_ok (hB.trans (hC4.mono hB.size)))).mono ?_;rintro e u5 ⟨rfl,hb5⟩;rw [HOP.out];have hC5:Below wb.heap.size wb u5:=hC4.trans (hb5.mono hC4.size)
 go_wp2_with fail
 refine hK.out _ _ (HSS2.out _ hC5) (fun hH=>?_);clear hK K
 try simp only [putS]
 refine tq2 27 hH ?_;simp only [putS];refine wpAnyH_done (by kernel_rfl) ?_ _;clear hH;obtain⟨V,hV⟩:∃ v,boxVol b.fBox=v:=⟨_,rfl⟩;have HQ:Hid (provedB m q b=(List.range V.toNat).all (provedAt m q b)):=by show _=_;rw [HN.out,decide_eq_true (show y0<=op by omega),hV];simp
 have hhd:=(vbq_parts HV2.out).2.1;have HVB:=Lib.hid (bqHead_parts hhd).2.2.1;have hllw:=(bqHead_parts hhd).2.2.2;rw [HF.out]at hllw;have HLL:=Lib.hid hllw
 have hV1:1<=V/\V<=400:=by
  rw [<- hV];unfold bqHead at hhd;simp only [Bool.and_eq_true]at hhd;exact inR_t.1 hhd.1.2
 have HVV:Hid (V=volume b.fBox):=by
  show _=_;rw [<- hV];rw [<- hV]at hV1;unfold boxVol at hV1 ⊢;rw [HVB.out]at hV1 ⊢;simp at hV1 ⊢;omega
 have HV:=Lib.hid hV;have hq:=(vbq_parts HV2.out).1;have HQV:=Lib.hid hq;clear hV hhd hllw hlow hq HN HSS2 hd0;replace hB:=hB.trans (hC5.mono hB.size);replace bxm:=bxm.below hC5;replace bxq:=bxq.below hC5;replace bxb:=bxb.below hC5;clear hC5;rename World=>wS;have kq_0:=bxq 0 _ rfl;have kq_1:=bxq 1 _ rfl
 go_wp2_with fail
 refine(sShapes_c _ q _ ((rQuery_ok NB).keep rq (cells_below hB)) HQV.out).mono ?_;rintro e w1 ⟨Ash,nsh,csh,rfl,hsh,hb1⟩;replace hB:=hB.trans (hb1.mono hB.size);replace bxm:=bxm.below hb1;replace bxq:=bxq.below hb1;replace bxb:=bxb.below hb1;clear hb1 kq_0 kq_1;have kq_0:=bxq 0 _ rfl;have kq_1:=bxq 1 _ rfl
 go_wp2_with fail
 refine(sFullMask_c _ q _ ((rQuery_ok NB).keep rq (cells_below hB))).mono ?_;rintro e w2 ⟨rfl,hb2⟩;replace hB:=hB.trans (hb2.mono hB.size);replace bxm:=bxm.below hb2;replace bxq:=bxq.below hb2;replace bxb:=bxb.below hb2;replace hsh:=hsh.below rShape_ok hb2;clear hb2 kq_0 kq_1;rw [HF.out];rename World=>wC;have hBC:=hB;have bmC:=bxm;have bqC:=bxq;have bbC:=bxb;have hshC:=hsh.rs rShape_ok;clear bxm bxq bxb hB hsh
 go_wp2_with fail
 go_loopw [9] (fun iv wr=>∃ k:Nat,(k:Int)<=V/\iv=.int .i64 (k:Int)/\(List.range k).all (provedAt m q b)=true/\Below wC.heap.size wC wr) (fun iv _=>V.toNat - (intOf iv).toNat)
 case atStart=>exact⟨0,by omega,rfl,rfl,Below.refl _ _⟩
 case round =>
  obtain⟨k,hk,rfl,hpr,hE⟩:=hrel;have HPR:=Lib.hid hpr;clear hpr;have bxm:=bmC.below hE;have bxq:=bqC.below hE;have bxb:=bbC.below hE;have hB:=hBC.trans (hE.mono hBC.size);have rBx:(rBox NB).rep wr [.slice Ab_i nb_i cb_i,.slice Ab_h nb_h cb_h] b.fBox:=(rBox_rep.2 ⟨Ab_i,nb_i,cb_i,Ab_h,nb_h,cb_h,rfl,hb_i.below rInt_ok hB,hb_h.below rInt_ok hB⟩);have ⟨kb3,kb4⟩:wr.cell? ⟨w.heap.size+1+1,3,none⟩=some (.slice Ab_i nb_i cb_i)/\wr.cell? ⟨w.heap.size+1+1,4,none⟩=some (.slice Ab_h nb_h cb_h):=⟨bxb 3 _ rfl,bxb 4 _ rfl⟩
  go_wp2_with fail
  refine(sBoxVolume_c _ b.fBox _ rBx).mono ?_;rintro e w1 ⟨rfl,hb1⟩;rw [HV.out];have hE1:=hE.trans (hb1.mono hE.size);have hB1:=hBC.trans (hE1.mono hBC.size);have bxb1:=bxb.below hb1;clear kb3 kb4;by_cases hlt:(k:Int)<V
  ·have hvk:(k:Int)<volume b.fBox:=by rw [<- HVV.out];exact hlt
   have hkI:I64 (k:Int):=by unfold I64;omega
   obtain⟨hlo1,hlo2⟩:=loc_ok HVB.out hvk;have hll2:=locSizes_len HVB.out (i:=k) hvk;have hl1:fullMask q<(locSizes (boxLoc b.fBox (k:Int)).1).length:=by rw [HF.out,hll2];have:=HLL.out;omega
   have hl2:(locSizes (boxLoc b.fBox (k:Int)).1).length<=16:=by rw [hll2];have:=HLL.out;omega
   have hon:=optC_at HV1.out (by rw [HF.out];exact HV3.out) hlo1 (by rw [hlo2,HF.out];exact HLL.out);obtain⟨L,hL⟩:∃ L,(boxLoc b.fBox (k:Int)).1=L:=⟨_,rfl⟩;rw [hL]at hl1 hl2 hon;obtain⟨E,hE0⟩:∃ E,bestX m q (locSizes L)=E:=⟨_,rfl⟩;rw [hE0]at hon;have HE:Hid ((bestE (tableE m q (locSizes L)) F).getD zPlanEntry=E):=by show _=_;rw [<- hE0];unfold bestX;rw [HF.out]
   obtain⟨kc,hkc⟩:∃ v,contourOf b.fBudgets E.fCost=v:=⟨_,rfl⟩;have HPA:Hid (provedAt m q b k=(decide (0<=kc)&&coveredAt m q b L kc)):=by show _=_;unfold provedAt;rw [hL,hon,hkc]
   have hkb:=contourOf_bd b.fBudgets E.fCost;rw [hkc,HBD.out]at hkb;have HKC:=Lib.hid hkc;have HL:=Lib.hid hL;clear hkc hon hE0 hL hll2 hlo1 hlo2 hvk;have ⟨kb3,kb4⟩:w1.cell? ⟨w.heap.size+1+1,3,none⟩=some (.slice Ab_i nb_i cb_i)/\w1.cell? ⟨w.heap.size+1+1,4,none⟩=some (.slice Ab_h nb_h cb_h):=⟨bxb1 3 _ rfl,bxb1 4 _ rfl⟩;have rBx1:=(rBox_ok NB).keep rBx (cells_below hb1)
   go_wp2_with fail
   refine(sBoxLocation_c _ b.fBox (k:Int) _ rBx1 hkI).mono ?_;rintro e wU ⟨Al,nl,cl,rfl,mL,hb2⟩;rw [HL.out]at mL;have hRl:=mL.rs rInt_ok;have hEU:=hE1.trans (hb2.mono hE1.size);clear mL kb3 kb4 rBx rBx1 bxm bxq bxb hB hE hE1 hB1 bxb1 hb1 hb2;have bxm:=bmC.below hEU;have bxq:=bqC.below hEU;have bxb:=bbC.below hEU;have hB:=hBC.trans (hEU.mono hBC.size);have hshU:=hshC.below rShape_ok hEU
   have HSS:Hid (∀ w',Below wU.heap.size wU w'->(w'.rangeAt w.heap.size 0 csm/\w'.cell? ⟨w.heap.size+1,0,none⟩=some (.int .i64 q.fVariableCount)/\w'.cell? ⟨w.heap.size+1,1,none⟩=some (.slice Aq_e nq_e cq_e))):=by
    show ∀ w',_->_;intro w' hb;exact⟨(bxm.below hb).range,(bxq.below hb) 0 _ rfl,(bxq.below hb) 1 _ rfl⟩
   have hd0:=(Below.refl wU.heap.size wU).drew
   go_upto_region 9 with fail
   refine hbg HSS.out (Below.refl _ _).drew (fun hH=>?_);refine ldm 0 63 (fun w h=>h.1) Tryz.underlying46 (by rw [lenm'];exact sizeModelT) hH ?_;refine tq2 1 hH ?_;refine tq1 3 hH ?_;simp only [putS];refine tq1 6 hH ?_;simp only [putS];refine rd2 4 (some 67) 11 (some 12) (fun K hK=>?_) fun K hK=>?_
   all_goals clear hH
   focus
    go_simp;refine(sLocationSizes_c Al nl cl L _ (hRl.below rInt_ok hd0)).mono ?_;rintro e U4 ⟨AS,nS,cS,rfl,mS,hb4⟩;have B4:Below wU.heap.size wU U4:=hd0.trans (hb4.mono hd0.size);have rS:=mS.rs rInt_ok;clear mS
    go_wp2_with fail
    refine hK.out _ _ (HSS.out _ B4) (fun hH=>?_);clear hK K
    try simp only [putS]
    refine rd2 5 (some 68) 11 (some 12) (fun K hK=>?_) fun K hK=>?_
    all_goals clear hH
    focus
     go_simp;refine(sTable_c csm m q Aq_e nq_e cq_e Ash nsh csh AS nS cS (locSizes L) _ ((rModel_ok NB).keep rm (cells_below (hB.trans (B4.mono hB.size)))) (hq_e.below (rAtom_ok NB) (hB.trans (B4.mono hB.size))) (hshU.below rShape_ok B4) rS HQV.out hl1 hl2).mono ?_;rintro e U5 ⟨AT,nT,cT,rfl,PT5,hb5⟩;have B5:Below wU.heap.size wU U5:=B4.trans (hb5.mono B4.size);have rT:=PT5.rs (rPlanEntry_ok NB);clear PT5
     go_wp2_with fail
     refine hK.out _ _ (HSS.out _ B5) (fun hH=>?_);clear hK K
     try simp only [putS]
     refine rd2 7 (some 70) 11 (some 12) (fun K hK=>?_) fun K hK=>?_
     all_goals clear hH
     focus
      go_simp;refine(sBest_c AT nT cT (tableE m q (locSizes L)) F _ rT).mono ?_;rintro e U7 ⟨csX,fS,rfl,oX,fX,hb7⟩;rw [HE.out]at oX;obtain⟨AX,nX,cX,fS,rfl,rfl,i0,i1,i2,oS⟩:=rPlanEntry_own.1 oX;clear oX oS fX;have B7:Below wU.heap.size wU U7:=B5.trans (hb7.mono B5.size)
      go_wp2_with fail
      refine hK.out _ _ (HSS.out _ B7) (fun hH=>?_);clear hK K
      try simp only [putS]
      refine tq2 8 hH ?_;refine tq1 10 hH ?_;simp only [putS];have hCa:=B7.alloc B7.size (.cells #[.int .i64 0,.int .i64 0,.int .i64 0,.slice none 0 0] 107);refine rd 11 (some 12) fun K hK=>?_;clear hH;go_simp;refine hK.out _ _ (HSS.out _ hCa) (fun hH=>?_);clear hK K
      try simp only [putS]
      obtain⟨gx,hg0⟩:∃ g,g=U7.heap.size:=⟨_,rfl⟩;obtain⟨Ua,hUa⟩:∃ W,W=U7.alloc (.cells #[.int .i64 0,.int .i64 0,.int .i64 0,.slice none 0 0] 107):=⟨_,rfl⟩;have kx:Bk Ua gx 107 [.int .i64 0,.int .i64 0,.int .i64 0,.slice none 0 0]:=by rw [hUa,hg0];exact Bk.new U7 _ _
      have B6:Below wU.heap.size wU Ua:=by rw [hUa];exact hCa
      have ba:Below U7.heap.size U7 Ua:=by rw [hUa];exact bal
      have hgl:wU.heap.size<=gx:=by rw [hg0];exact B7.size
      rw [<- hUa]at hH ⊢;rw [<- hg0];have BZ:=B6;clear hUa hg0 hCa B6 ba B4 B5 B7 hb4 hb5 hb7 rS rT;have ⟨r0,z0,r1,z1,r2,z2,r3,z3⟩:=kx.r4;have hC9:=bls4 BZ hgl (.int .i64 E.fMask) (.int .i64 E.fOrder) (.int .i64 E.fCost) (.slice AX nX cX);refine rd 12 none fun K hK=>?_;clear hH;go_simp;refine hK.out _ _ (HSS.out _ hC9) (fun hH=>?_);clear hK K
      try simp only [putS]
      refine tq1 13 hH ?_;simp only [putS];refine wpAnyH_done (by kernel_rfl) ?_ _;clear hH;obtain⟨W9,hW9⟩:∃ W,W=(((Ua.setCell ⟨gx,0,none⟩ (.int .i64 E.fMask)).setCell ⟨gx,1,none⟩ (.int .i64 E.fOrder)).setCell ⟨gx,2,none⟩ (.int .i64 E.fCost)).setCell ⟨gx,3,none⟩ (.slice AX nX cX):=⟨_,rfl⟩;have k9:Bk W9 gx 107 [.int .i64 E.fMask,.int .i64 E.fOrder,.int .i64 E.fCost,.slice AX nX cX]:=by rw [hW9];exact kx.put4 _ _ _ _
      have B9:Below wU.heap.size wU W9:=by rw [hW9];exact hC9
      rw [<- hW9];clear hW9 kx hC9 r0 z0 r1 z1 r2 z2 r3 z3 BZ HSS hd0 hgl
     rotate_left
     focus
      have hCa:=B5.alloc B5.size (.cells #[.int .i64 0,.int .i64 0,.int .i64 0,.slice none 0 0] 107);go_simp;refine hK.out _ _ (HSS.out _ hCa) (fun hH=>?_);clear hK K
      try simp only [putS]
      obtain⟨gx,hg0⟩:∃ g,g=U5.heap.size:=⟨_,rfl⟩;obtain⟨Ua,hUa⟩:∃ W,W=U5.alloc (.cells #[.int .i64 0,.int .i64 0,.int .i64 0,.slice none 0 0] 107):=⟨_,rfl⟩;have kx:Bk Ua gx 107 [.int .i64 0,.int .i64 0,.int .i64 0,.slice none 0 0]:=by rw [hUa,hg0];exact Bk.new U5 _ _
      have B6:Below wU.heap.size wU Ua:=by rw [hUa];exact hCa
      have ba:Below U5.heap.size U5 Ua:=by rw [hUa];exact bal
      have hgl:wU.heap.size<=gx:=by rw [hg0];exact B5.size
      rw [<- hUa]at hH ⊢;rw [<- hg0];clear hUa hg0 hCa;replace rT:=rT.below (rPlanEntry_ok NB) ba;clear ba;refine rd 7 (some 70) fun K hK=>?_;clear hH;go_simp;refine(sBest_c AT nT cT (tableE m q (locSizes L)) F _ rT).mono ?_;rintro e U7 ⟨csX,fS,rfl,oX,fX,hb7⟩;rw [HE.out]at oX;obtain⟨AX,nX,cX,fS,rfl,rfl,i0,i1,i2,oS⟩:=rPlanEntry_own.1 oX;clear oX oS fX;have B7:Below wU.heap.size wU U7:=B6.trans (hb7.mono B6.size)
      go_wp2_with fail
      refine hK.out _ _ (HSS.out _ B7) (fun hH=>?_);clear hK K
      try simp only [putS]
      refine tq2 8 hH ?_;refine tq1 10 hH ?_;simp only [putS];replace kx:=kx.below hb7;have BZ:=B7;clear B6 B7 hb7 rT rS B4 B5 hb4 hb5;have ⟨r0,z0,r1,z1,r2,z2,r3,z3⟩:=kx.r4;have hC9:=bls4 BZ hgl (.int .i64 E.fMask) (.int .i64 E.fOrder) (.int .i64 E.fCost) (.slice AX nX cX);refine rd 12 none fun K hK=>?_;clear hH;go_simp;refine hK.out _ _ (HSS.out _ hC9) (fun hH=>?_);clear hK K
      try simp only [putS]
      refine tq1 13 hH ?_;simp only [putS];refine wpAnyH_done (by kernel_rfl) ?_ _;clear hH;obtain⟨W9,hW9⟩:∃ W,W=(((U7.setCell ⟨gx,0,none⟩ (.int .i64 E.fMask)).setCell ⟨gx,1,none⟩ (.int .i64 E.fOrder)).setCell ⟨gx,2,none⟩ (.int .i64 E.fCost)).setCell ⟨gx,3,none⟩ (.slice AX nX cX):=⟨_,rfl⟩;have k9:Bk W9 gx 107 [.int .i64 E.fMask,.int .i64 E.fOrder,.int .i64 E.fCost,.slice AX nX cX]:=by rw [hW9];exact kx.put4 _ _ _ _
      have B9:Below wU.heap.size wU W9:=by rw [hW9];exact hC9
      rw [<- hW9];clear hW9 kx hC9 r0 z0 r1 z1 r2 z2 r3 z3 BZ HSS hd0 hgl
    rotate_left 2
    focus
     have hCa:=B4.alloc B4.size (.cells #[.int .i64 0,.int .i64 0,.int .i64 0,.slice none 0 0] 107);go_simp;refine hK.out _ _ (HSS.out _ hCa) (fun hH=>?_);clear hK K
     try simp only [putS]
     obtain⟨gx,hg0⟩:∃ g,g=U4.heap.size:=⟨_,rfl⟩;obtain⟨Ua,hUa⟩:∃ W,W=U4.alloc (.cells #[.int .i64 0,.int .i64 0,.int .i64 0,.slice none 0 0] 107):=⟨_,rfl⟩;have kx:Bk Ua gx 107 [.int .i64 0,.int .i64 0,.int .i64 0,.slice none 0 0]:=by rw [hUa,hg0];exact Bk.new U4 _ _
     have B6:Below wU.heap.size wU Ua:=by rw [hUa];exact hCa
     have ba:Below U4.heap.size U4 Ua:=by rw [hUa];exact bal
     have hgl:wU.heap.size<=gx:=by rw [hg0];exact B4.size
     rw [<- hUa]at hH ⊢;rw [<- hg0];clear hUa hg0 hCa;replace rS:=rS.below rInt_ok ba;clear ba;refine rd 5 (some 68) fun K hK=>?_;clear hH;go_simp;refine(sTable_c csm m q Aq_e nq_e cq_e Ash nsh csh AS nS cS (locSizes L) _ ((rModel_ok NB).keep rm (cells_below (hB.trans (B6.mono hB.size)))) (hq_e.below (rAtom_ok NB) (hB.trans (B6.mono hB.size))) (hshU.below rShape_ok B6) rS HQV.out hl1 hl2).mono ?_;rintro e U5 ⟨AT,nT,cT,rfl,PT5,hb5⟩;have B5:Below wU.heap.size wU U5:=B6.trans (hb5.mono B6.size);have rT:=PT5.rs (rPlanEntry_ok NB);clear PT5
     go_wp2_with fail
     refine hK.out _ _ (HSS.out _ B5) (fun hH=>?_);clear hK K
     try simp only [putS]
     replace kx:=kx.below hb5;refine rd 7 (some 70) fun K hK=>?_;clear hH;go_simp;refine(sBest_c AT nT cT (tableE m q (locSizes L)) F _ rT).mono ?_;rintro e U7 ⟨csX,fS,rfl,oX,fX,hb7⟩;rw [HE.out]at oX;obtain⟨AX,nX,cX,fS,rfl,rfl,i0,i1,i2,oS⟩:=rPlanEntry_own.1 oX;clear oX oS fX;have B7:Below wU.heap.size wU U7:=B5.trans (hb7.mono B5.size)
     go_wp2_with fail
     refine hK.out _ _ (HSS.out _ B7) (fun hH=>?_);clear hK K
     try simp only [putS]
     refine tq2 8 hH ?_;refine tq1 10 hH ?_;simp only [putS];replace kx:=kx.below hb7;have BZ:=B7;clear B6 B7 hb7 rT rS B4 B5 hb4 hb5;have ⟨r0,z0,r1,z1,r2,z2,r3,z3⟩:=kx.r4;have hC9:=bls4 BZ hgl (.int .i64 E.fMask) (.int .i64 E.fOrder) (.int .i64 E.fCost) (.slice AX nX cX);refine rd 12 none fun K hK=>?_;clear hH;go_simp;refine hK.out _ _ (HSS.out _ hC9) (fun hH=>?_);clear hK K
     try simp only [putS]
     refine tq1 13 hH ?_;simp only [putS];refine wpAnyH_done (by kernel_rfl) ?_ _;clear hH;obtain⟨W9,hW9⟩:∃ W,W=(((U7.setCell ⟨gx,0,none⟩ (.int .i64 E.fMask)).setCell ⟨gx,1,none⟩ (.int .i64 E.fOrder)).setCell ⟨gx,2,none⟩ (.int .i64 E.fCost)).setCell ⟨gx,3,none⟩ (.slice AX nX cX):=⟨_,rfl⟩;have k9:Bk W9 gx 107 [.int .i64 E.fMask,.int .i64 E.fOrder,.int .i64 E.fCost,.slice AX nX cX]:=by rw [hW9];exact kx.put4 _ _ _ _
     have B9:Below wU.heap.size wU W9:=by rw [hW9];exact hC9
     rw [<- hW9];clear hW9 kx hC9 r0 z0 r1 z1 r2 z2 r3 z3 BZ HSS hd0 hgl
   rotate_left 3
   focus
    have hCa:=hd0.alloc hd0.size (.cells #[.int .i64 0,.int .i64 0,.int .i64 0,.slice none 0 0] 107);go_simp;refine hK.out _ _ (HSS.out _ hCa) (fun hH=>?_);clear hK K
    try simp only [putS]
    obtain⟨gx,hg0⟩:∃ g,g=wU.heap.size:=⟨_,rfl⟩;obtain⟨Ua,hUa⟩:∃ W,W=(wU.alloc (.cells #[.int .i64 0,.int .i64 0,.int .i64 0,.slice none 0 0] 107)).drew:=⟨_,rfl⟩;have kx:Bk Ua gx 107 [.int .i64 0,.int .i64 0,.int .i64 0,.slice none 0 0]:=by rw [hUa,hg0];exact Bk.new wU _ _
    have B6:Below wU.heap.size wU Ua:=by rw [hUa];exact hCa
    have hgl:wU.heap.size<=gx:=by rw [hg0];exact Nat.le_refl _
    rw [<- hUa]at hH ⊢;rw [<- hg0];clear hUa hg0 hCa;refine rd 4 (some 67) fun K hK=>?_;clear hH;go_simp;refine(sLocationSizes_c Al nl cl L _ (hRl.below rInt_ok B6)).mono ?_;rintro e U4 ⟨AS,nS,cS,rfl,mS,hb4⟩;have B4:Below wU.heap.size wU U4:=B6.trans (hb4.mono B6.size);have rS:=mS.rs rInt_ok;clear mS
    go_wp2_with fail
    refine hK.out _ _ (HSS.out _ B4) (fun hH=>?_);clear hK K
    try simp only [putS]
    replace kx:=kx.below hb4;refine rd 5 (some 68) fun K hK=>?_;clear hH;go_simp;refine(sTable_c csm m q Aq_e nq_e cq_e Ash nsh csh AS nS cS (locSizes L) _ ((rModel_ok NB).keep rm (cells_below (hB.trans (B4.mono hB.size)))) (hq_e.below (rAtom_ok NB) (hB.trans (B4.mono hB.size))) (hshU.below rShape_ok B4) rS HQV.out hl1 hl2).mono ?_;rintro e U5 ⟨AT,nT,cT,rfl,PT5,hb5⟩;have B5:Below wU.heap.size wU U5:=B4.trans (hb5.mono B4.size);have rT:=PT5.rs (rPlanEntry_ok NB);clear PT5
    go_wp2_with fail
    refine hK.out _ _ (HSS.out _ B5) (fun hH=>?_);clear hK K
    try simp only [putS]
    replace kx:=kx.below hb5;refine rd 7 (some 70) fun K hK=>?_;clear hH;go_simp;refine(sBest_c AT nT cT (tableE m q (locSizes L)) F _ rT).mono ?_;rintro e U7 ⟨csX,fS,rfl,oX,fX,hb7⟩;rw [HE.out]at oX;obtain⟨AX,nX,cX,fS,rfl,rfl,i0,i1,i2,oS⟩:=rPlanEntry_own.1 oX;clear oX oS fX;have B7:Below wU.heap.size wU U7:=B5.trans (hb7.mono B5.size)
    go_wp2_with fail
    refine hK.out _ _ (HSS.out _ B7) (fun hH=>?_);clear hK K
    try simp only [putS]
    refine tq2 8 hH ?_;refine tq1 10 hH ?_;simp only [putS];replace kx:=kx.below hb7;have BZ:=B7;clear B6 B7 hb7 rT rS B4 B5 hb4 hb5;have ⟨r0,z0,r1,z1,r2,z2,r3,z3⟩:=kx.r4;have hC9:=bls4 BZ hgl (.int .i64 E.fMask) (.int .i64 E.fOrder) (.int .i64 E.fCost) (.slice AX nX cX);refine rd 12 none fun K hK=>?_;clear hH;go_simp;refine hK.out _ _ (HSS.out _ hC9) (fun hH=>?_);clear hK K
    try simp only [putS]
    refine tq1 13 hH ?_;simp only [putS];refine wpAnyH_done (by kernel_rfl) ?_ _;clear hH;obtain⟨W9,hW9⟩:∃ W,W=(((U7.setCell ⟨gx,0,none⟩ (.int .i64 E.fMask)).setCell ⟨gx,1,none⟩ (.int .i64 E.fOrder)).setCell ⟨gx,2,none⟩ (.int .i64 E.fCost)).setCell ⟨gx,3,none⟩ (.slice AX nX cX):=⟨_,rfl⟩;have k9:Bk W9 gx 107 [.int .i64 E.fMask,.int .i64 E.fOrder,.int .i64 E.fCost,.slice AX nX cX]:=by rw [hW9];exact kx.put4 _ _ _ _
    have B9:Below wU.heap.size wU W9:=by rw [hW9];exact hC9
    rw [<- hW9];clear hW9 kx hC9 r0 z0 r1 z1 r2 z2 r3 z3 BZ HSS hd0 hgl
   all_goals
    have hE9:=hEU.trans (B9.mono hEU.size);have hB9:=hBC.trans (hE9.mono hBC.size);have rL9:=hRl.below rInt_ok B9;have x2:=k9.bx 2 _ rfl;have kb5:=(bxb.below B9) 5 _ rfl;have rBu:=(hb_k.below rInt_ok hB9)
    go_wp2_with fail
    refine(sContourOf_c _ _ _ b.fBudgets E.fCost W9 rBu).mono ?_;rintro e w10 ⟨rfl,hww⟩;replace hww:=hww.symm;subst hww;rw [HKC.out];clear x2 kb5 rBu;rcases hkb with hneg|⟨jc,hjc,hjl⟩
    focus
     subst hneg
     have HZ:Hid (provedB m q b=false):=by
      show _=_;rw [HQ.out];exact rangeAll_no (k:=k) (by rw [HPA.out];rfl) (by omega)
     go_wp2;go_ret;exact⟨ret_bool HZ.out.symm,hB9⟩
    subst hjc;have hjd:decide ((jc:Int)<0)=false:=decide_eq_false (by omega);have hjn:¬ (jc:Int)<0:=by omega
    have HJC:Hid ((jc:Int)<b.fContours.length):=by show _<_;have:=(vbq_parts HV2.out).2.2.2.2.2;have:=HBD.out;omega
    have km:=(bxm.below B9).range;have bq9:=bxq.below B9;have bb9:=bxb.below B9;have kq_0:=bq9 0 _ rfl;have kq_1:=bq9 1 _ rfl;have kb_0:=bb9 0 _ rfl;have kb_1:=bb9 1 _ rfl;have kb_2:=bb9 2 _ rfl;have kb_3:=bb9 3 _ rfl;have kb_4:=bb9 4 _ rfl;have kb_5:=bb9 5 _ rfl;have kb_6:=bb9 6 _ rfl;have kb_7:=bb9 7 _ rfl
    go_wp2_with (first|(refine wpList_load_mid rfl 46 _ rfl w.heap.size 0 rfl csm _ km Tryz.underlying46 rfl (by rw [lenm'];exact sizeModelT) ?_)|(refine wpList_load_midP 46 _ rfl w.heap.size 0 rfl csm _ km Tryz.underlying46 rfl (by rw [lenm'];exact sizeModelT) (by simp [Region.wanted,yielded]) ?_))
    refine(sCovered_c _ m _ q _ b (jc:Int) _ _ _ L _ ((rModel_ok NB).keep rm (cells_below hB9)) ((rQuery_ok NB).keep rq (cells_below hB9)) ((rBouquet_ok NB).keep rb (cells_below hB9)) rL9 HV2.out (by omega) HJC.out).mono ?_;rintro e w11 ⟨rfl,hb11⟩;have hE11:=hE9.trans (hb11.mono hE9.size);clear km kq_0 kq_1 kb_0 kb_1 kb_2 kb_3 kb_4 kb_5 kb_6 kb_7;obtain⟨cv,hcv⟩:∃ v,coveredAt m q b L (jc:Int)=v:=⟨_,rfl⟩;have HCV:=Lib.hid hcv;rw [hcv];clear hcv;cases cv
    focus
     have HZ:Hid (provedB m q b=false):=by
      show _=_;rw [HQ.out];exact rangeAll_no (k:=k) (by rw [HPA.out,HCV.out];simp) (by omega)
     go_wp2;go_ret;exact⟨ret_bool HZ.out.symm,hBC.trans (hE11.mono hBC.size)⟩
    have HZ:Hid ((List.range (k+1)).all (provedAt m q b)=true):=Lib.hid (proved_snoc HPR.out (by rw [HPA.out,HCV.out];simp));go_wp2;go_roundw
    case rel=>exact⟨k+1,by omega,by go_num,HZ.out,hE11⟩
    case measure=>simp [intOf];omega
  ·have hlt2:k=V.toNat:=by omega
   subst hlt2;have HZ:Hid (provedB m q b=true):=by show _=_;rw [HQ.out];exact HPR.out
   go_wp2;go_ret;exact⟨ret_bool HZ.out.symm,hB1⟩
end Go.Proofs.YtnlcfkpcmfljeaaGreat
namespace Go.Proofs.YtnlcfkpcmfljeaaGreat
open Go.RowKit
attribute [local go_sem ↓] Go.wp_at_zero Go.wp_at_succ
theorem vb_bud0I {q:QueryD}{b:BouquetD}(h:validBouquet q b=true):0<b.fBudgets.length:=by
 unfold validBouquet at h;simp only [Bool.and_eq_true,decide_eq_true_eq]at h;exact h.1.2
theorem proved_snocI {m:ModelD}{q:QueryD}{b:BouquetD}{k:Nat}(h:(List.range k).all (provedAt m q b)=true) (hk:provedAt m q b k=true):(List.range (k+1)).all (provedAt m q b)=true:=by
 rw [List.range_succ,List.all_append,h];simp [hk]
theorem contourOf_bdI (l:List Int) (c:Int):contourOf l c=-1\/∃ j:Nat,contourOf l c=j/\j<l.length:=by
 unfold contourOf;cases h:l.findIdx? (fun b=>decide (c<=b)) with
 | none=>exact .inl rfl
 | some i=>exact .inr ⟨i,rfl,(List.findIdx?_eq_some_iff_getElem.1 h).1⟩
structure IpC (csm:List Value) (m:ModelD) (vc:Int) (Aq:Option Addr) (nq cq:Nat) (q:QueryD) (gm gq gb gl gs:Nat) (AP:Option Addr) (nP cP:Nat) (ps:List PlanD) (Al:Option Addr) (nl cl:Nat) (L:List Int) (s:Int) (W:World):Prop where
 km:W.rangeAt gm 0 csm
 q0:W.cell? ⟨gq,0,none⟩=some (.int .i64 vc)
 q1:W.cell? ⟨gq,1,none⟩=some (.slice Aq nq cq)
 b6:W.cell? ⟨gb,6,none⟩=some (.slice AP nP cP)
 l0:W.cell? ⟨gl,0,none⟩=some (.slice Al nl cl)
 s0:W.cell? ⟨gs,0,none⟩=some (.int .i64 s)
 rm:(rModel NB).rep W csm m
 rq:(rQuery NB).rep W [.int .i64 vc,.slice Aq nq cq] q
 rp:RS NB (rPlan NB) W AP nP cP ps
 rl:RS NB rInt W Al nl cl L
theorem IpC.below {csm:List Value}{m:ModelD}{vc:Int}{Aq:Option Addr}{nq cq:Nat}{q:QueryD}{gm gq gb gl gs:Nat}{AP:Option Addr}{nP cP:Nat}{ps:List PlanD}{Al:Option Addr}{nl cl:Nat}{L:List Int}{s:Int}{W W':World}(h:IpC csm m vc Aq nq cq q gm gq gb gl gs AP nP cP ps Al nl cl L s W) (hb:Below W.heap.size W W'):IpC csm m vc Aq nq cq q gm gq gb gl gs AP nP cP ps Al nl cl L s W' :=
 ⟨fun j v hj=>cells_below hb _ _ (h.km j v hj),cells_below hb _ _ h.q0,cells_below hb _ _ h.q1,cells_below hb _ _ h.b6,cells_below hb _ _ h.l0,cells_below hb _ _ h.s0,(rModel_ok NB).keep h.rm (cells_below hb),(rQuery_ok NB).keep h.rq (cells_below hb),h.rp.below (rPlan_ok NB) hb,h.rl.below rInt_ok hb⟩
theorem iIpFn_c (csm:List Value) (m:ModelD) (vc:Int) (Aq:Option Addr) (nq cq:Nat) (q:QueryD) (gm gq gb gl gs:Nat) (AP:Option Addr) (nP cP:Nat) (ps:List PlanD) (Al:Option Addr) (nl cl:Nat) (L:List Int) (s:Int) (j:Nat) (w:World) (h:IpC csm m vc Aq nq cq q gm gq gb gl gs AP nP cP ps Al nl cl L s w) (hj:j<nP) :
  Calls Tryz.prog 114 #[.int .i64 (j:Int),.pointer (some ⟨gm,0,none⟩),.pointer (some ⟨gq,0,none⟩),.pointer (some ⟨gb,0,none⟩),.pointer (some ⟨gl,0,none⟩),.pointer (some ⟨gs,0,none⟩)] w fun e w'=>e=.returned (.bool (decide (costAt m q ps L (j:Int)<=s)))/\Below w.heap.size w w':=by
 have lenm':csm.length=30:=(rModel_ok NB).len h.rm;have hnP:=h.rp.bound;have hjI:(j:Int)<(nP:Int):=by omega
 obtain⟨bP,oP,PL,A1,n1,c1,rfl,hcP,hRP,hPX⟩:=h.rp.planP hj;obtain⟨c,hc⟩:∃ c,costAt m q ps L (j:Int)=c:=⟨_,rfl⟩
 have K2:Hid (∀ W,Below w.heap.size w W->Calls Tryz.prog 115 #[.agg csm.toArray,.agg #[.int .i64 vc,.slice Aq nq cq],.agg #[.slice A1 n1 c1],.slice Al nl cl] W fun e w'=>e=.returned (.int .i64 c)/\Below W.heap.size W w'):=by
  show ∀ W,_->_;intro W hW;have H:=h.below hW;rw [<- hc,costAtN hPX.out];exact iPlanCostAt_c _ m _ q _ PL _ _ _ L W H.rm H.rq (rPlan_rep.2 ⟨_,_,_,rfl,hRP.below (rPlanStep_ok NB) hW⟩) H.rl
 rw [hc];clear hc hPX
 have HSS:Hid (∀ w',Below w.heap.size w w'->(w'.rangeAt gm 0 csm/\w'.cell? ⟨gq,0,none⟩=some (.int .i64 vc)/\w'.cell? ⟨gq,1,none⟩=some (.slice Aq nq cq)/\w'.cell? ⟨gb,6,none⟩=some (.slice (some ⟨bP,oP,none⟩) nP cP)/\w'.cell? ⟨bP,oP+j,none⟩=some (.slice A1 n1 c1)/\w'.cell? ⟨gl,0,none⟩=some (.slice Al nl cl)/\w'.cell? ⟨gs,0,none⟩=some (.int .i64 s))):=by
  show ∀ w',_->_;intro w' hb;have H:=h.below hb;exact⟨H.km,H.q0,H.q1,H.b6,cells_below hb _ _ hcP,H.l0,H.s0⟩
 clear h hRP hcP;have hd0:=(Below.refl w.heap.size w).drew
 go_enter Tryz.func114,Tryz.ntmps114
 go_upto_region 1 with fail
 refine hbg HSS.out (Below.refl _ _).drew (fun hH=>?_);refine ldm 0 8 (fun w h=>h.1) Tryz.underlying46 (by rw [lenm'];exact sizeModelT) hH ?_;simp only [putS];refine tq4 1 hH ?_;simp only [putS];refine tq2 5 hH ?_;refine tq1 7 hH ?_;refine tq1 9 hH ?_;simp only [putS];refine rd 8 (some 16) fun K hK=>?_;clear hH;go_simp;refine(K2.out _ hd0).mono ?_;rintro e w2 ⟨rfl,hb2⟩;have hC1:Below w.heap.size w w2:=hd0.trans (hb2.mono hd0.size)
 go_wp2_with fail
 refine hK.out _ _ (HSS.out _ hC1) (fun hH=>?_);clear hK K
 try simp only [putS]
 refine tq2 10 hH ?_;simp only [putS];refine wpAnyH_done (by kernel_rfl) ?_ _;clear hH;go_wp2;go_ret;exact⟨rfl,hC1⟩
theorem indexFunc_IsProvedBouquet_1_c (A:Option Addr) (n cap:Nat) (l:List Int) (cp1:Value) (cp2:Value) (cp3:Value) (cp4:Value) (cp5:Value) (p:Int->Bool) (w:World) (hr:RS NB rInt w A n cap l)
  (hf:∀ x W,x∈l->Below w.heap.size w W->Calls Tryz.prog 114 #[.int .i64 x,cp1,cp2,cp3,cp4,cp5] W fun e w'=>e=.returned (.bool (p x))/\Below W.heap.size W w') :
  Calls Tryz.prog 174 #[.slice A n cap,.func (.func 114) #[] #[cp1,cp2,cp3,cp4,cp5]] w fun e w'=>e=.returned (.int .i64 (idxOf p l))/\Below w.heap.size w w':=by
 have hn:=hr.bound;have HF:=Lib.hid hf;clear hf
 go_enter Tryz.func174,Tryz.ntmps174
 go_wp2
 go_loopw [8] (fun i wr=>∃ k:Nat,k<=n/\i=.int .i64 k/\(l.take k).all (fun b=>!p b)=true/\Below w.heap.size w wr) (fun i _=>n - (intOf i).toNat)
 case atStart=>exact⟨0,Nat.zero_le _,rfl,rfl,Below.refl _ _⟩
 case round =>
  obtain⟨k,hk,rfl,hall,hb⟩:=hrel;have Hall:=Lib.hid hall;clear hall;by_cases hlt:k<n
  ·obtain⟨b,off,x,rfl,hc,hI,hxk⟩:=(hr.below rInt_ok hb).ati hlt
   cases hx:p x
   ·go_wp2_with (go_at_call 114;refine(HF.out x wr (mem_of_at hxk.out) hb).mono ?_;rintro e w1 ⟨rfl,hb1⟩)
    go_roundw
    case rel=>exact⟨k+1,by omega,by go_num,all_snoc' Hall.out hxk.out (by simp [hx]),hb.trans (hb1.mono hb.size)⟩
    case measure=>simp [intOf];omega
   ·go_wp2_with (go_at_call 114;refine(HF.out x wr (mem_of_at hxk.out) hb).mono ?_;rintro e w1 ⟨rfl,hb1⟩)
    go_ret;exact⟨ret_int (idxOf_yes Hall.out hxk.out hx).symm,hb.trans (hb1.mono hb.size)⟩
  ·go_wp2
   go_ret;exact⟨ret_int (a:=-1) (idxOf_no (take_all hr.len hlt▸Hall.out)).symm,hb⟩
theorem containsFunc_IsProvedBouquet_1_c (A:Option Addr) (n cap:Nat) (l:List Int) (cp1:Value) (cp2:Value) (cp3:Value) (cp4:Value) (cp5:Value) (p:Int->Bool) (w:World) (hr:RS NB rInt w A n cap l)
  (hf:∀ x W,x∈l->Below w.heap.size w W->Calls Tryz.prog 114 #[.int .i64 x,cp1,cp2,cp3,cp4,cp5] W fun e w'=>e=.returned (.bool (p x))/\Below W.heap.size W w') :
  Calls Tryz.prog 113 #[.slice A n cap,.func (.func 114) #[] #[cp1,cp2,cp3,cp4,cp5]] w fun e w'=>e=.returned (.bool (l.any p))/\Below w.heap.size w w':=by
 go_enter Tryz.func113,Tryz.ntmps113
 go_wp2_with fail
 refine(indexFunc_IsProvedBouquet_1_c A n cap l _ _ _ _ _ p w hr hf).mono ?_;rintro e w1 ⟨rfl,hb1⟩;generalize hk:idxOf p l=k;have HK:=Lib.hid hk;clear hk;go_wp2;go_ret;exact⟨ret_bool (by rw [<- idxOf_any,HK.out]),hb1⟩
theorem iIsProvedBouquet_c (csm:List Value) (m:ModelD) (csq:List Value) (q:QueryD) (csb:List Value) (b:BouquetD) (w:World) (hm:(rModel NB).rep w csm m) (hq:(rQuery NB).rep w csq q) (hb:(rBouquet NB).rep w csb b) :
  Calls Tryz.prog 44 #[.agg csm.toArray,.agg csq.toArray,.agg csb.toArray] w fun e w'=>e=.returned (.bool (provedB m q b))/\Below w.heap.size w w':=by
 have rm:=hm;have lenm:=(rModel_ok NB).len hm;clear hm;have rq:=hq;obtain⟨Aq_e,nq_e,cq_e,rfl,hq_p5,hq_e⟩:=rQuery_rep.1 hq;clear hq;have rb:=hb;obtain⟨Ab_i,nb_i,cb_i,Ab_h,nb_h,cb_h,Ab_k,nb_k,cb_k,Ab_a4,nb_a4,cb_a4,Ab_w,nb_w,cb_w,rfl,hb_r5,hb_f4,hb_v4,hb_i,hb_h,hb_k,hb_a4,hb_w⟩:=rBouquet_rep.1 hb;clear hb;obtain⟨hB,bxm,bxq,bxb⟩:=op3 w csm 46 [.int .i64 q.fVariableCount,.slice Aq_e nq_e cq_e] 50 [.int .i64 b.fVersion,.int .i64 b.fRatio,.int .i64 b.fSlack,.slice Ab_i nb_i cb_i,.slice Ab_h nb_h cb_h,.slice Ab_k nb_k cb_k,.slice Ab_a4 nb_a4 cb_a4,.slice Ab_w nb_w cb_w] 90;have lenm':csm.length=30:=lenm
 clear lenm;have hnBu:=hb_k.bound;have hnPl:=hb_a4.bound;have HBD:=Lib.hid hb_k.len;have HCL:=Lib.hid hb_w.len;have HPL:=Lib.hid hb_a4.len;obtain⟨v1,hv1⟩:∃ v,okBouquet m q b=v:=⟨_,rfl⟩;obtain⟨op,hop⟩:∃ v,optC m q b.fBox.fLow=v:=⟨_,rfl⟩;obtain⟨y0,hy0⟩:∃ v,(b.fBudgets[0]?).getD 0=v:=⟨_,rfl⟩;have HN:Hid (provedB m q b=(v1&&(decide (y0<=op)&&(List.range (boxVol b.fBox).toNat).all (provedAt m q b)))):=by show _=_;unfold provedB;rw [hv1,hy0,hop]
 have HV1:=Lib.hid hv1;have HOP:=Lib.hid hop;have HY0:=Lib.hid hy0;clear hv1 hop hy0
 go_enter Tryz.func44,Tryz.ntmps44
 go_upto_region 1 with fail
 obtain⟨wb,hwb⟩:∃ W,W=((((((w).alloc (.cells csm.toArray 46))).alloc (.cells #[.int .i64 q.fVariableCount,.slice Aq_e nq_e cq_e] 50))).alloc (.cells #[.int .i64 b.fVersion,.int .i64 b.fRatio,.int .i64 b.fSlack,.slice Ab_i nb_i cb_i,.slice Ab_h nb_h cb_h,.slice Ab_k nb_k cb_k,.slice Ab_a4 nb_a4 cb_a4,.slice Ab_w nb_w cb_w] 90)):=⟨_,rfl⟩;rw [<- hwb]at hB bxm bxq bxb ⊢;clear hwb
 have HSS:Hid (∀ w',Below wb.heap.size wb w'->(w'.rangeAt w.heap.size 0 csm/\w'.cell? ⟨w.heap.size+1,0,none⟩=some (.int .i64 q.fVariableCount)/\w'.cell? ⟨w.heap.size+1,1,none⟩=some (.slice Aq_e nq_e cq_e)/\w'.cell? ⟨w.heap.size+1+1,0,none⟩=some (.int .i64 b.fVersion)/\w'.cell? ⟨w.heap.size+1+1,1,none⟩=some (.int .i64 b.fRatio)/\w'.cell? ⟨w.heap.size+1+1,2,none⟩=some (.int .i64 b.fSlack)/\w'.cell? ⟨w.heap.size+1+1,3,none⟩=some (.slice Ab_i nb_i cb_i)/\w'.cell? ⟨w.heap.size+1+1,4,none⟩=some (.slice Ab_h nb_h cb_h)/\w'.cell? ⟨w.heap.size+1+1,5,none⟩=some (.slice Ab_k nb_k cb_k)/\w'.cell? ⟨w.heap.size+1+1,6,none⟩=some (.slice Ab_a4 nb_a4 cb_a4)/\w'.cell? ⟨w.heap.size+1+1,7,none⟩=some (.slice Ab_w nb_w cb_w))):=by
  show ∀ w',_->_;intro w' hb;exact⟨(bxm.below hb).range,(bxq.below hb) 0 _ rfl,(bxq.below hb) 1 _ rfl,(bxb.below hb) 0 _ rfl,(bxb.below hb) 1 _ rfl,(bxb.below hb) 2 _ rfl,(bxb.below hb) 3 _ rfl,(bxb.below hb) 4 _ rfl,(bxb.below hb) 5 _ rfl,(bxb.below hb) 6 _ rfl,(bxb.below hb) 7 _ rfl⟩
 have hd0:=(Below.refl wb.heap.size wb).drew;cases v1
 ·refine hbg HSS.out (Below.refl _ _).drew (fun hH=>?_)
  refine ldm 0 11 (fun w h=>h.1) Tryz.underlying46 (by rw [lenm'];exact sizeModelT) hH ?_;refine tq2 1 hH ?_;simp only [putS];refine rd 3 (some 14) fun K hK=>?_;clear hH;go_simp;refine(iBouquetOk_c _ m _ q _ b _ ((rModel_ok NB).keep rm (cells_below (hB.trans (hd0.mono hB.size)))) ((rQuery_ok NB).keep rq (cells_below (hB.trans (hd0.mono hB.size)))) ((rBouquet_ok NB).keep rb (cells_below (hB.trans (hd0.mono hB.size))))).mono ?_;rintro e u1 ⟨rfl,hb1⟩;rw [HV1.out];have hC1:Below wb.heap.size wb u1:=hd0.trans (hb1.mono hd0.size)
  go_wp2_with fail
  refine hK.out _ _ (HSS.out _ hC1) (fun hH=>?_);clear hK K
  try simp only [putS]
  refine tq2 4 hH ?_;simp only [putS];refine tr4 6 hH ?_;simp only [putS];refine tr4 10 hH ?_;simp only [putS];refine tr2 14 hH ?_;refine tr1 16 hH ?_;refine tq1 17 hH ?_;simp only [putS];refine wpAnyH_done (by kernel_rfl) ?_ _;clear hH;have HQ:Hid (provedB m q b=false):=by show _=_;rw [HN.out];simp
  go_wp2;go_ret;exact⟨ret_bool HQ.out.symm,hB.trans (hC1.mono hB.size)⟩
 have HVB0:Hid (validBouquet q b=true):=by
  have h:=HV1.out;unfold okBouquet at h;simp only [Bool.and_eq_true]at h;exact h.1
 have hbud0:0<nb_k:=by have:=vb_bud0I HVB0.out;have:=HBD.out;omega
 obtain⟨bB,oB,y,rfl,hcx,hIx,hx⟩:=hb_k.ati hbud0;have HYY:Hid (y=y0):=by show _=_;have h:=HY0.out;rw [hx.out]at h;exact h
 rw [HYY.out]at hcx;rw [Nat.add_zero]at hcx;have hbud0I:(0:Int)<nb_k:=by omega
 clear hx hIx
 have HSS2:Hid (∀ w',Below wb.heap.size wb w'->(w'.rangeAt w.heap.size 0 csm/\w'.cell? ⟨w.heap.size+1,0,none⟩=some (.int .i64 q.fVariableCount)/\w'.cell? ⟨w.heap.size+1,1,none⟩=some (.slice Aq_e nq_e cq_e)/\w'.cell? ⟨w.heap.size+1+1,0,none⟩=some (.int .i64 b.fVersion)/\w'.cell? ⟨w.heap.size+1+1,1,none⟩=some (.int .i64 b.fRatio)/\w'.cell? ⟨w.heap.size+1+1,2,none⟩=some (.int .i64 b.fSlack)/\w'.cell? ⟨w.heap.size+1+1,3,none⟩=some (.slice Ab_i nb_i cb_i)/\w'.cell? ⟨w.heap.size+1+1,4,none⟩=some (.slice Ab_h nb_h cb_h)/\w'.cell? ⟨w.heap.size+1+1,5,none⟩=some (.slice (some ⟨bB,oB,none⟩) nb_k cb_k)/\w'.cell? ⟨w.heap.size+1+1,6,none⟩=some (.slice Ab_a4 nb_a4 cb_a4)/\w'.cell? ⟨w.heap.size+1+1,7,none⟩=some (.slice Ab_w nb_w cb_w)/\w'.cell? ⟨bB,oB,none⟩=some (.int .i64 y0))):=by
  show ∀ w',_->_;intro w' hb;exact⟨(bxm.below hb).range,(bxq.below hb) 0 _ rfl,(bxq.below hb) 1 _ rfl,(bxb.below hb) 0 _ rfl,(bxb.below hb) 1 _ rfl,(bxb.below hb) 2 _ rfl,(bxb.below hb) 3 _ rfl,(bxb.below hb) 4 _ rfl,(bxb.below hb) 5 _ rfl,(bxb.below hb) 6 _ rfl,(bxb.below hb) 7 _ rfl,cells_below (hB.trans (hb.mono hB.size)) _ _ hcx⟩
 clear HSS;by_cases hlow:op<y0
 ·have hlowd:decide (op<y0)=true:=decide_eq_true hlow
  refine hbg HSS2.out (Below.refl _ _).drew (fun hH=>?_);refine ldm 0 11 (fun w h=>h.1) Tryz.underlying46 (by rw [lenm'];exact sizeModelT) hH ?_;refine tq2 1 hH ?_;simp only [putS];refine rd 3 (some 14) fun K hK=>?_;clear hH;go_simp;refine(iBouquetOk_c _ m _ q _ b _ ((rModel_ok NB).keep rm (cells_below (hB.trans (hd0.mono hB.size)))) ((rQuery_ok NB).keep rq (cells_below (hB.trans (hd0.mono hB.size)))) ((rBouquet_ok NB).keep rb (cells_below (hB.trans (hd0.mono hB.size))))).mono ?_;rintro e u1 ⟨rfl,hb1⟩;rw [HV1.out];have hC1:Below wb.heap.size wb u1:=hd0.trans (hb1.mono hd0.size)
  go_wp2_with fail
  refine hK.out _ _ (HSS2.out _ hC1) (fun hH=>?_);clear hK K
  try simp only [putS]
  refine tq2 4 hH ?_;refine ldm 6 17 (fun w h=>h.1) Tryz.underlying46 (by rw [lenm'];exact sizeModelT) hH ?_;simp only [putS];refine tq4 7 hH ?_;simp only [putS];refine tq4 12 hH ?_;simp only [putS];refine rd 11 (some 22) fun K hK=>?_;clear hH;go_simp;refine(iOptimalCostAt_c _ m _ q _ _ _ b.fBox.fLow _ ((rModel_ok NB).keep rm (cells_below (hB.trans (hC1.mono hB.size)))) ((rQuery_ok NB).keep rq (cells_below (hB.trans (hC1.mono hB.size)))) (hb_i.below rInt_ok (hB.trans (hC1.mono hB.size)))).mono ?_;rintro e u2 ⟨rfl,hb2⟩;rw [HOP.out];have hC2:Below wb.heap.size wb u2:=hC1.trans (hb2.mono hC1.size)
  go_wp2_with fail
  refine hK.out _ _ (HSS2.out _ hC2) (fun hH=>?_);clear hK K
  try simp only [putS]
  refine tq2 16 hH ?_;simp only [putS];refine wpAnyH_done (by kernel_rfl) ?_ _;clear hH;have HQ:Hid (provedB m q b=false):=by show _=_;rw [HN.out];simp;intro h;omega
  go_wp2;go_ret;exact⟨ret_bool HQ.out.symm,hB.trans (hC2.mono hB.size)⟩
 have hlowd:decide (op<y0)=false:=decide_eq_false hlow;refine hbg HSS2.out (Below.refl _ _).drew (fun hH=>?_);refine ldm 0 11 (fun w h=>h.1) Tryz.underlying46 (by rw [lenm'];exact sizeModelT) hH ?_;refine tq2 1 hH ?_;simp only [putS];refine rd 3 (some 14) fun K hK=>?_;clear hH;go_simp;refine(iBouquetOk_c _ m _ q _ b _ ((rModel_ok NB).keep rm (cells_below (hB.trans (hd0.mono hB.size)))) ((rQuery_ok NB).keep rq (cells_below (hB.trans (hd0.mono hB.size)))) ((rBouquet_ok NB).keep rb (cells_below (hB.trans (hd0.mono hB.size))))).mono ?_;rintro e u1 ⟨rfl,hb1⟩;rw [HV1.out];have hC1:Below wb.heap.size wb u1:=hd0.trans (hb1.mono hd0.size)
 go_wp2_with fail
 refine hK.out _ _ (HSS2.out _ hC1) (fun hH=>?_);clear hK K
 try simp only [putS]
 refine tq2 4 hH ?_;refine ldm 6 17 (fun w h=>h.1) Tryz.underlying46 (by rw [lenm'];exact sizeModelT) hH ?_;simp only [putS];refine tq4 7 hH ?_;simp only [putS];refine tq4 12 hH ?_;simp only [putS];refine rd 11 (some 22) fun K hK=>?_;clear hH;go_simp;refine(iOptimalCostAt_c _ m _ q _ _ _ b.fBox.fLow _ ((rModel_ok NB).keep rm (cells_below (hB.trans (hC1.mono hB.size)))) ((rQuery_ok NB).keep rq (cells_below (hB.trans (hC1.mono hB.size)))) (hb_i.below rInt_ok (hB.trans (hC1.mono hB.size)))).mono ?_;rintro e u2 ⟨rfl,hb2⟩;rw [HOP.out];have hC2:Below wb.heap.size wb u2:=hC1.trans (hb2.mono hC1.size)
 go_wp2_with fail
 refine hK.out _ _ (HSS2.out _ hC2) (fun hH=>?_);clear hK K
 try simp only [putS]
 refine tq2 16 hH ?_;simp only [putS];refine wpAnyH_done (by kernel_rfl) ?_ _;clear hH;obtain⟨V,hV⟩:∃ v,boxVol b.fBox=v:=⟨_,rfl⟩;have HQ:Hid (provedB m q b=(List.range V.toNat).all (provedAt m q b)):=by show _=_;rw [HN.out,decide_eq_true (show y0<=op by omega),hV];simp
 have hhd:=(vbq_parts HVB0.out).2.1
 have hV1:1<=V/\V<=400:=by
  rw [<- hV];unfold bqHead at hhd;simp only [Bool.and_eq_true]at hhd;exact inR_t.1 hhd.1.2
 have HLO:Hid (locsL b.fBox=(List.range V.toNat).map (fun i:Nat=>(boxLoc b.fBox (i:Int)).1)):=by show _=_;unfold locsL;rw [hV,if_neg (by omega)]
 clear hV hhd hlow HN HSS2 hd0;replace hB:=hB.trans (hC2.mono hB.size);replace bxm:=bxm.below hC2;replace bxq:=bxq.below hC2;replace bxb:=bxb.below hC2;clear hC2;have kb_3:=bxb 3 _ rfl;have kb_4:=bxb 4 _ rfl
 go_wp2_with fail
 refine(iLocations_c _ b.fBox _ (rBox_rep.2 ⟨Ab_i,nb_i,cb_i,Ab_h,nb_h,cb_h,rfl,hb_i.below rInt_ok hB,hb_h.below rInt_ok hB⟩)).mono ?_;rintro e w1 ⟨AL,nL,cL,rfl,mL,hb1⟩;replace hB:=hB.trans (hb1.mono hB.size);replace bxm:=bxm.below hb1;replace bxq:=bxq.below hb1;replace bxb:=bxb.below hb1;clear hb1 kb_3 kb_4;rename World=>wC;have hrL:=mL.rs (rSlice_ok NB _ rInt_ok);have hLL:=hrL.len;rw [HLO.out,List.length_map,List.length_range]at hLL;have hnL:=hrL.bound;have hBC:=hB;have bmC:=bxm;have bqC:=bxq;have bbC:=bxb;clear bxm bxq bxb hB mL
 go_wp2_with fail
 go_loopw [33] (fun iv wr=>∃ k:Nat,k<=nL/\iv=.int .i64 (k:Int)/\(List.range k).all (provedAt m q b)=true/\Below wC.heap.size wC wr) (fun iv _=>nL - (intOf iv).toNat)
 case atStart=>exact⟨0,by omega,rfl,rfl,Below.refl _ _⟩
 case round =>
  obtain⟨k,hk,rfl,hpr,hE⟩:=hrel;have HPR:=Lib.hid hpr;clear hpr;by_cases hlt:k<nL
  ·have hltI:(k:Int)<nL:=by omega
   have hrL2:=hrL.below (rSlice_ok NB _ rInt_ok) hE;obtain⟨bC,oC,L,Ar,nr,cr,rfl,hcr,hRr,hr⟩:=hrL2.row hlt;have hkV:k<V.toNat:=by omega
   have HL:Hid ((boxLoc b.fBox (k:Int)).1=L):=by
    show _=_;have h:=hr.out;rw [HLO.out,List.getElem?_map,List.getElem?_range hkV]at h;injection h
   obtain⟨co,hco⟩:∃ v,optC m q L=v:=⟨_,rfl⟩;obtain⟨kc,hkc⟩:∃ v,contourOf b.fBudgets co=v:=⟨_,rfl⟩;have HPA:Hid (provedAt m q b k=(decide (0<=kc)&&coveredAt m q b L kc)):=by show _=_;unfold provedAt;rw [HL.out,hco,hkc]
   have hkb:=contourOf_bdI b.fBudgets co;rw [hkc,HBD.out]at hkb;have HCO:=Lib.hid hco;have HKC:=Lib.hid hkc;clear hco hkc hr;obtain⟨gl,hgl⟩:∃ g,g=wr.heap.size:=⟨_,rfl⟩;obtain⟨wl,hwl⟩:∃ W,W=wr.alloc (.cells #[.slice Ar nr cr] 30):=⟨_,rfl⟩;have hbl:Below wr.heap.size wr wl:=by rw [hwl];exact bal
   have kl:Bk wl gl 30 [.slice Ar nr cr]:=by rw [hwl,hgl];exact Bk.new wr _ _
   have hEl:=hE.trans (hbl.mono hE.size);have hRl:=hRr.below rInt_ok hbl
   go_upto_region 6 with fail
   rw [<- hwl,<- hgl];clear hwl hgl hcr hRr hbl hE;have hBl:=hBC.trans (hEl.mono hBC.size);have bxm:=bmC.below hEl;have bxq:=bqC.below hEl;have bxb:=bbC.below hEl
   have HSS:Hid (∀ w',Below wl.heap.size wl w'->(w'.rangeAt w.heap.size 0 csm/\w'.cell? ⟨w.heap.size+1,0,none⟩=some (.int .i64 q.fVariableCount)/\w'.cell? ⟨w.heap.size+1,1,none⟩=some (.slice Aq_e nq_e cq_e)/\w'.cell? ⟨w.heap.size+1+1,5,none⟩=some (.slice (some ⟨bB,oB,none⟩) nb_k cb_k)/\w'.cell? ⟨gl,0,none⟩=some (.slice Ar nr cr))):=by
    show ∀ w',_->_;intro w' hb;exact⟨(bxm.below hb).range,(bxq.below hb) 0 _ rfl,(bxq.below hb) 1 _ rfl,(bxb.below hb) 5 _ rfl,(kl.below hb).bx 0 _ rfl⟩
   have hd0:=(Below.refl wl.heap.size wl).drew;have hX0:=hBl.trans (hd0.mono hBl.size);refine hbg HSS.out (Below.refl _ _).drew (fun hH=>?_);refine tq2 0 hH ?_;refine ldm 2 39 (fun w h=>h.1) Tryz.underlying46 (by rw [lenm'];exact sizeModelT) hH ?_;simp only [putS];refine tq2 3 hH ?_;simp only [putS];refine rd 5 (some 42) fun K hK=>?_;clear hH;go_simp;refine(iOptimalCostAt_c _ m _ q _ _ _ L _ ((rModel_ok NB).keep rm (cells_below hX0)) ((rQuery_ok NB).keep rq (cells_below hX0)) (hRl.below rInt_ok hd0)).mono ?_;rintro e u1 ⟨rfl,hb1⟩;rw [HCO.out];have hC1:Below wl.heap.size wl u1:=hd0.trans (hb1.mono hd0.size)
   go_wp2_with fail
   refine hK.out _ _ (HSS.out _ hC1) (fun hH=>?_);clear hK K
   try simp only [putS]
   have hX1:=hBl.trans (hC1.mono hBl.size);refine rd 6 (some 43) fun K hK=>?_;clear hH;go_simp;refine(iContourOf_c _ _ _ b.fBudgets co _ (hb_k.below rInt_ok hX1)).mono ?_;rintro e u2 ⟨rfl,hb2⟩;rw [HKC.out];have hC2:Below wl.heap.size wl u2:=hC1.trans (hb2.mono hC1.size)
   go_wp2_with fail
   refine hK.out _ _ (HSS.out _ hC2) (fun hH=>?_);clear hK K
   try simp only [putS]
   refine tq1 7 hH ?_;simp only [putS];refine wpAnyH_done (by kernel_rfl) ?_ _;clear hH;have hX2:=hBl.trans (hC2.mono hBl.size);have hE2:=hEl.trans (hC2.mono hEl.size);clear HSS hd0 hX0 hX1 hC1 hb1 hb2;rcases hkb with hneg|⟨jc,hjc,hjl⟩
   ·subst hneg
    have HZ:Hid (provedB m q b=false):=by
     show _=_;rw [HQ.out];exact rangeAll_no (k:=k) (by rw [HPA.out];rfl) hkV
    go_wp2;go_ret;exact⟨ret_bool HZ.out.symm,hX2⟩
   subst hjc;have hjd:decide ((jc:Int)<0)=false:=decide_eq_false (by omega);have hjB:(jc:Int)<nb_k:=by omega
   obtain⟨_,hh,_,hbu,hcof,hle⟩:=vbq_parts HVB0.out;have hjCn:jc<nb_w:=by have:=HCL.out;have:=HBD.out;omega
   have hjCI:(jc:Int)<nb_w:=by omega
   obtain⟨bB2,oB2,y,hab,hcy,hIy,hy⟩:=hb_k.ati hjl;obtain⟨rfl,rfl⟩:bB=bB2/\oB=oB2:=by injection hab with h;injection h with h1 h2;exact⟨h1,h2⟩
   obtain⟨bK,oK,row,Aw,nw,cw,rfl,hcw,hRw,hw0⟩:=hb_w.row hjCn;obtain⟨s,hs⟩:∃ s,slackOf y b.fSlack=s:=⟨_,rfl⟩;have HP:Hid (∀ x∈row,0<=x/\x<(nb_a4:Int)):=by show ∀ x∈row,_;intro x hx;have:=hcof row (mem_of_at hw0.out) x hx;rw [HPL.out]at this;exact this
   have HCV:Hid (coveredAt m q b L (jc:Int)=row.any (fun x=>decide (costAt m q b.fPlans L x<=s))):=by
    show _=_;unfold coveredAt;rw [Int.toNat_natCast,hy.out,hw0.out,<- hs];rfl
   have hsb:=slack_bd (hbu jc y hy.out) (bqHead_parts hh).2.1;rw [hs]at hsb;have HS:=Lib.hid hs
   have K1:Hid (∀ W,Calls Tryz.prog 112 #[.int .i64 y,.int .i64 b.fSlack] W fun e w'=>e=.returned (.int .i64 s)/\w'=W):=by
    show ∀ W,_;exact fun W=>iSlackBudget_w HS.out W
   clear hs hy hw0 hab hh hbu hcof hle
   have HCC:Hid (∀ w',Below u2.heap.size u2 w'->(w'.cell? ⟨w.heap.size+1+1,5,none⟩=some (.slice (some ⟨bB,oB,none⟩) nb_k cb_k)/\w'.cell? ⟨bB,oB+jc,none⟩=some (.int .i64 y)/\w'.cell? ⟨w.heap.size+1+1,2,none⟩=some (.int .i64 b.fSlack))):=by
    show ∀ w',_->_;intro w' hb;have hz:=hC2.trans (hb.mono hC2.size);exact⟨(bxb.below hz) 5 _ rfl,cells_below (hBl.trans (hz.mono hBl.size)) _ _ hcy,(bxb.below hz) 2 _ rfl⟩
   have hd2:=(Below.refl u2.heap.size u2).drew;have hcell:=hd2.alloc hd2.size (.cells #[.int .i64 0] 3);have hset:=((Below.refl u2.heap.size u2).alloc (Nat.le_refl _) (.cells #[.int .i64 s] 3)).drew
   go_wp2_with fail
   refine hbg HCC.out (Below.refl _ _).drew (fun hH=>?_);refine tq4 0 hH ?_;simp only [putS];refine tq2 4 hH ?_;refine tq1 6 hH ?_;simp only [putS];refine rd2 7 (some 53) 8 (some 10) (fun K hK=>?_) fun K hK=>?_
   all_goals clear hH
   focus
    go_simp;refine(K1.out _).mono ?_;rintro e w' ⟨rfl,rfl⟩
    go_wp2_with fail
    refine hK.out _ _ (HCC.out _ hd2) (fun hH=>?_);clear hK K
    try simp only [putS]
    refine rd 8 (some 10) fun K hK=>?_;clear hH;go_simp;refine hK.out _ _ (HCC.out _ hcell) (fun hH=>?_);clear hK K
    try simp only [putS]
    refine rd 9 none fun K hK=>?_;clear hH;go_simp;refine hK.out _ _ (HCC.out _ hset) (fun hH=>?_);clear hK K
    try simp only [putS]
    refine wpAnyH_done (by kernel_rfl) ?_ _;clear hH
   rotate_left
   focus
    go_simp;refine hK.out _ _ (HCC.out _ hcell) (fun hH=>?_);clear hK K
    try simp only [putS]
    refine rd 7 (some 53) fun K hK=>?_;clear hH;go_simp;refine(K1.out _).mono ?_;rintro e w' ⟨rfl,rfl⟩
    go_wp2_with fail
    refine hK.out _ _ (HCC.out _ hcell) (fun hH=>?_);clear hK K
    try simp only [putS]
    refine rd 9 none fun K hK=>?_;clear hH;go_simp;refine hK.out _ _ (HCC.out _ hset) (fun hH=>?_);clear hK K
    try simp only [putS]
    refine wpAnyH_done (by kernel_rfl) ?_ _;clear hH
   all_goals
    obtain⟨gs,hgs⟩:∃ g,g=u2.heap.size:=⟨_,rfl⟩;obtain⟨W9,hW9⟩:∃ W,W=(u2.alloc (.cells #[.int .i64 s] 3)).drew:=⟨_,rfl⟩;have k9:Bk W9 gs 3 [.int .i64 s]:=by rw [hW9,hgs];exact Bk.new u2 _ _
    have B9:Below u2.heap.size u2 W9:=by rw [hW9];exact hset
    rw [<- hW9,<- hgs];clear hset hcell hd2 HCC hW9 hgs;have hC9:=hC2.trans (B9.mono hC2.size);have hX9:=hBl.trans (hC9.mono hBl.size)
    have HI:Hid (IpC csm m q.fVariableCount Aq_e nq_e cq_e q w.heap.size (w.heap.size+1) (w.heap.size+1+1) gl gs Ab_a4 nb_a4 cb_a4 b.fPlans Ar nr cr L s W9) :=
     ⟨(bxm.below hC9).range,(bxq.below hC9) 0 _ rfl,(bxq.below hC9) 1 _ rfl,(bxb.below hC9) 6 _ rfl,(kl.below hC9).bx 0 _ rfl,k9.bx 0 _ rfl,((rModel_ok NB).keep rm (cells_below hX9)),((rQuery_ok NB).keep rq (cells_below hX9)),(hb_a4.below (rPlan_ok NB) hX9),hRl.below rInt_ok hC9⟩
    have cb7:=(bxb.below hC9) 7 _ rfl;have cw9:=cells_below hX9 _ _ hcw
    go_wp2_with fail
    refine(containsFunc_IsProvedBouquet_1_c Aw nw cw row _ _ _ _ _ (fun x=>decide (costAt m q b.fPlans L x<=s)) W9 (hRw.below rInt_ok hX9) (fun x W hx hW=>?_)).mono ?_
    ·have hxb:=HP.out x hx
     obtain⟨j,rfl⟩:∃ j:Nat,x=j:=⟨x.toNat,by omega⟩;exact iIpFn_c _ _ _ _ _ _ _ _ _ _ _ _ _ _ _ _ _ _ _ _ _ j W (HI.out.below hW) (by omega)
    rintro e w10 ⟨rfl,hb10⟩;rw [<- HCV.out];have hE10:=hE2.trans ((B9.mono (Nat.le_refl _)).mono hE2.size);have hE11:=hE10.trans (hb10.mono hE10.size);clear cb7 cw9 HI;obtain⟨cv,hcv⟩:∃ v,coveredAt m q b L (jc:Int)=v:=⟨_,rfl⟩;have HCW:=Lib.hid hcv;rw [hcv];clear hcv;cases cv
    ·have HZ:Hid (provedB m q b=false):=by
      show _=_;rw [HQ.out];exact rangeAll_no (k:=k) (by rw [HPA.out,HCW.out];simp) hkV
     go_wp2;go_ret;exact⟨ret_bool HZ.out.symm,hBC.trans (hE11.mono hBC.size)⟩
    have HZ:Hid ((List.range (k+1)).all (provedAt m q b)=true):=Lib.hid (proved_snocI HPR.out (by rw [HPA.out,HCW.out];simp));go_wp2;go_roundw
    case rel=>exact⟨k+1,by omega,by go_num,HZ.out,hE11⟩
    case measure=>simp [intOf];omega
  ·have hlt2:k=nL:=by omega
   subst hlt2;have hltI:¬ (k:Int)<k:=by omega
   have HZ:Hid (provedB m q b=true):=by show _=_;rw [HQ.out,hLL];exact HPR.out
   go_wp2;go_ret;exact⟨ret_bool HZ.out.symm,hBC.trans (hE.mono hBC.size)⟩
end Go.Proofs.YtnlcfkpcmfljeaaGreat
