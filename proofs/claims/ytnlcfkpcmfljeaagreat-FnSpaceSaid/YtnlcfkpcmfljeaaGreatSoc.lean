/-
  Soc
-/
import Derived.Test.YtnlcfkpcmfljeaaGreatEpl
import Derived.Test.YtnlcfkpcmfljeaaGreatPii
set_option linter.unusedSimpArgs false
set_option linter.unusedVariables false
set_option maxHeartbeats 12800000
set_option maxRecDepth 100000
namespace Go.Proofs.YtnlcfkpcmfljeaaGreat
open Go.RowKit
attribute [local go_sem ↓] Go.wp_at_zero Go.wp_at_succ
theorem sPlanTable_c (csm:List Value) (m:ModelD) (csq:List Value) (q:QueryD) (Az:Option Addr) (nz cz:Nat) (z:List Int) (w:World) (hm:(rModel NB).rep w csm m) (hq:(rQuery NB).rep w csq q) (hz:RS NB rInt w Az nz cz z) :
  Calls Tryz.prog 218 #[.agg csm.toArray,.agg csq.toArray,.slice Az nz cz] w (fun e W=>∃ A n c,e=.returned (.slice A n c)/\RS NB (rPlanEntry NB) W A n c (tabV m q z)/\Below w.heap.size w W):=by
 have rm:=hm;have lenm:=(rModel_ok NB).len hm;clear hm;have rq:=hq;obtain⟨Aq_e,nq_e,cq_e,rfl,hq_p5,hq_e⟩:=rQuery_rep.1 hq;clear hq;obtain⟨hB,bxm,bxq⟩:=op2 w csm 46 [.int .i64 q.fVariableCount,.slice Aq_e nq_e cq_e] 50;have lenm':csm.length=30:=lenm;clear lenm;have hnz:=hz.bound
 go_enter Tryz.func218,Tryz.ntmps218
 go_wp2_with (refine wpList_load_mid rfl 46 _ rfl w.heap.size 0 rfl csm _ bxm.range Tryz.underlying46 rfl (by rw [lenm'];exact sizeModel) ?_)
 refine(sIsAdmitted_c _ m _ ((rModel_ok NB).keep rm (cells_below hB))).mono ?_;rintro e w1 ⟨rfl,hb1⟩;replace hB:=hB.trans (hb1.mono hB.size);replace bxm:=bxm.below hb1;replace bxq:=bxq.below hb1;clear hb1;cases e1:admitted m
 ·have HN:Hid (tabV m q z=[]):=by show _=_;unfold tabV;rw [e1];rfl
  clear e1;go_wp2;go_ret;rw [HN.out];exact⟨_,_,_,rfl,RS.nil _ _ _ _ _,by first|exact hB|exact hB.alloc hB.size _⟩
 have H1:=Lib.hid e1;clear e1;have kq_0:=bxq 0 _ rfl;have kq_1:=bxq 1 _ rfl
 go_wp2_with fail
 refine(sIsSizeVector_c _ q _ _ _ z _ ((rQuery_ok NB).keep rq (cells_below hB)) (hz.below rInt_ok hB)).mono ?_;rintro e w2 ⟨rfl,hb2⟩;replace hB:=hB.trans (hb2.mono hB.size);replace bxm:=bxm.below hb2;replace bxq:=bxq.below hb2;clear hb2 kq_0 kq_1;cases e1:isSizes q z
 ·have HN:Hid (tabV m q z=[]):=by show _=_;unfold tabV;rw [e1,Bool.and_false];rfl
  clear e1;go_wp2;go_ret;rw [HN.out];exact⟨_,_,_,rfl,RS.nil _ _ _ _ _,by first|exact hB|exact hB.alloc hB.size _⟩
 obtain⟨hq1,hq2,_⟩:=isSizes_parts e1;have hfz:fullMask q<z.length:=by unfold fullMask;rw [if_pos hq1];omega
 have hz16:z.length<=16:=by
  have:(2:Nat) ^ q.fAtoms.length<=2 ^ 4:=Nat.pow_le_pow_right (by omega) (validQ_parts hq1).2.2.2.1;omega
 have HN:Hid (tabV m q z=tableE m q z):=by show _=_;unfold tabV;rw [H1.out,e1];rfl
 have HQ:=Lib.hid hq1;clear e1 hq1 hq2;rename World=>wb
 have HSS:Hid (∀ w',Below wb.heap.size wb w'->(w'.rangeAt w.heap.size 0 csm/\w'.cell? ⟨w.heap.size+1,0,none⟩=some (.int .i64 q.fVariableCount)/\w'.cell? ⟨w.heap.size+1,1,none⟩=some (.slice Aq_e nq_e cq_e))):=by
  show ∀ w',_->_;intro w' hb;exact⟨(bxm.below hb).range,(bxq.below hb) 0 _ rfl,(bxq.below hb) 1 _ rfl⟩
 have hd0:=(Below.refl wb.heap.size wb).drew
 go_upto_region 3 with fail
 refine hbg HSS.out (Below.refl _ _).drew (fun hH=>?_);refine ldm 0 17 (fun w h=>h.1) Tryz.underlying46 (by rw [lenm'];exact sizeModelT) hH ?_;refine tq2 1 hH ?_;refine tq1 4 hH ?_;simp only [putS];have hX0:=hB.trans (hd0.mono hB.size);refine rd 3 (some 20) fun K hK=>?_;clear hH;go_simp;refine(sShapes_c _ q _ ((rQuery_ok NB).keep rq (cells_below hX0)) HQ.out).mono ?_;rintro e u1 ⟨Ash,nsh,csh,rfl,hsh,hb1⟩;have hC1:Below wb.heap.size wb u1:=hd0.trans (hb1.mono hd0.size)
 go_wp2_with fail
 refine hK.out _ _ (HSS.out _ hC1) (fun hH=>?_);clear hK K
 try simp only [putS]
 have hX1:=hB.trans (hC1.mono hB.size);refine rd 5 (some 22) fun K hK=>?_;clear hH;go_simp;refine(sTable_c csm m q Aq_e nq_e cq_e Ash nsh csh Az nz cz z _ ((rModel_ok NB).keep rm (cells_below hX1)) (hq_e.below (rAtom_ok NB) hX1) (hsh.rs rShape_ok) (hz.below rInt_ok hX1) HQ.out hfz hz16).mono ?_;rintro e u2 ⟨AT,nT,cT,rfl,PT5,hb2⟩;have hC2:Below wb.heap.size wb u2:=hC1.trans (hb2.mono hC1.size)
 go_wp2_with fail
 refine hK.out _ _ (HSS.out _ hC2) (fun hH=>?_);clear hK K
 try simp only [putS]
 refine tq1 6 hH ?_;simp only [putS];refine wpAnyH_done (by kernel_rfl) ?_ _;clear hH;go_wp2;go_ret;rw [HN.out];exact⟨_,_,_,rfl,PT5.rs (rPlanEntry_ok NB),hB.trans (hC2.mono hB.size)⟩
theorem sL26Best_c (csm:List Value) (m:ModelD) (csq:List Value) (q:QueryD) (Az:Option Addr) (nz cz:Nat) (z:List Int) (w:World) (hm:(rModel NB).rep w csm m) (hq:(rQuery NB).rep w csq q) (hz:RS NB rInt w Az nz cz z) :
  Calls Tryz.prog 165 #[.agg csm.toArray,.agg csq.toArray,.slice Az nz cz] w (RetVB (rPlanEntry NB) ((optV m q z).getD zPlanEntry) (.bool (optV m q z).isSome) w):=by
 have rm:=hm;have lenm:=(rModel_ok NB).len hm;clear hm;have rq:=hq;obtain⟨Aq_e,nq_e,cq_e,rfl,hq_p5,hq_e⟩:=rQuery_rep.1 hq;clear hq;obtain⟨hB,bxm,bxq⟩:=op2 w csm 46 [.int .i64 q.fVariableCount,.slice Aq_e nq_e cq_e] 50;have lenm':csm.length=30:=lenm;clear lenm;have hnz:=hz.bound;obtain⟨wA,hwA⟩:∃ W,W=((w.alloc (.cells csm.toArray 46)).alloc (.cells #[.int .i64 q.fVariableCount,.slice Aq_e nq_e cq_e] 50)):=⟨_,rfl⟩;rw [<- hwA]at hB bxm bxq;have hsA:wA.heap.size=w.heap.size+1+1:=by rw [hwA];simp
 obtain⟨wb,hwb⟩:∃ W,W=wA.alloc (.cells #[.int .i64 0,.int .i64 0,.int .i64 0,.slice none 0 0] 107):=⟨_,rfl⟩;have hb_wb:Below wA.heap.size wA wb:=by rw [hwb];exact(Below.refl wA.heap.size wA).alloc (Nat.le_refl _) _
 replace hB:=hB.trans (hb_wb.mono hB.size);replace bxm:=bxm.below hb_wb;replace bxq:=bxq.below hb_wb;clear hb_wb;have kR:Bk wb wA.heap.size 107 [.int .i64 0,.int .i64 0,.int .i64 0,.slice none 0 0]:=by rw [hwb];exact Bk.new wA _ _
 rw [hsA]at kR;obtain⟨E,hE⟩:∃ E,(optV m q z).getD zPlanEntry=E:=⟨_,rfl⟩;obtain⟨bb,hbb⟩:∃ b,(optV m q z).isSome=b:=⟨_,rfl⟩;have HE:Hid ((bestE (tabV m q z) (fullMask q)).getD zPlanEntry=E):=hE;have HBB:Hid ((bestE (tabV m q z) (fullMask q)).isSome=bb):=hbb;rw [hE,hbb];clear hE hbb;obtain⟨gR,hgR⟩:∃ g,g=w.heap.size+1+1:=⟨_,rfl⟩;rw [<- hgR]at kR;have hgR0:w.heap.size<=gR:=by omega
 have HGR:=Lib.hid hgR
 go_enter Tryz.func165,Tryz.ntmps165
 go_upto_region 1 with fail
 rw [<- hwA,<- hwb,<- hgR];clear hwA hwb hsA hgR
 have HSS:Hid (∀ w',Below wb.heap.size wb w'->(w'.rangeAt w.heap.size 0 csm/\w'.cell? ⟨w.heap.size+1,0,none⟩=some (.int .i64 q.fVariableCount)/\w'.cell? ⟨w.heap.size+1,1,none⟩=some (.slice Aq_e nq_e cq_e))):=by
  show ∀ w',_->_;intro w' hb;exact⟨(bxm.below hb).range,(bxq.below hb) 0 _ rfl,(bxq.below hb) 1 _ rfl⟩
 have hd0:=(Below.refl wb.heap.size wb).drew;refine hbg HSS.out (Below.refl _ _).drew (fun hH=>?_);refine ldm 0 11 (fun w h=>h.1) Tryz.underlying46 (by rw [lenm'];exact sizeModelT) hH ?_;refine tq2 1 hH ?_;refine tq1 4 hH ?_;simp only [putS];refine rd2 3 (some 14) 10 (some 8) (fun K hK=>?_) fun K hK=>?_
 all_goals clear hH
 focus
  go_simp;refine(sPlanTable_c csm m _ q Az nz cz z _ ((rModel_ok NB).keep rm (cells_below (hB.trans (hd0.mono hB.size)))) ((rQuery_ok NB).keep rq (cells_below (hB.trans (hd0.mono hB.size)))) (hz.below rInt_ok (hB.trans (hd0.mono hB.size)))).mono ?_;rintro e U3 ⟨AT,nT,cT,rfl,rT,hb3⟩;have B3:Below wb.heap.size wb U3:=hd0.trans (hb3.mono hd0.size)
  go_wp2_with fail
  refine hK.out _ _ (HSS.out _ B3) (fun hH=>?_);clear hK K
  try simp only [putS]
  refine rd2 5 (some 16) 10 (some 8) (fun K hK=>?_) fun K hK=>?_
  all_goals clear hH
  focus
   go_simp;refine(sFullMask_c _ q _ ((rQuery_ok NB).keep rq (cells_below (hB.trans (B3.mono hB.size))))).mono ?_;rintro e U5 ⟨rfl,hb5⟩;have B5:Below wb.heap.size wb U5:=B3.trans (hb5.mono B3.size);replace rT:=rT.below (rPlanEntry_ok NB) hb5
   go_wp2_with fail
   refine hK.out _ _ (HSS.out _ B5) (fun hH=>?_);clear hK K
   try simp only [putS]
   refine rd2 6 (some 17) 10 (some 8) (fun K hK=>?_) fun K hK=>?_
   all_goals clear hH
   focus
    go_simp;refine(sBest_c AT nT cT (tabV m q z) (fullMask q) _ rT).mono ?_;rintro e U6 ⟨csX,fS,rfl,oX,fX,hb6⟩;rw [HE.out]at oX;rw [HBB.out];obtain⟨AX,nX,cX,fS,rfl,rfl,i0,i1,i2,oS⟩:=rPlanEntry_own.1 oX;have B6:Below wb.heap.size wb U6:=B5.trans (hb6.mono B5.size)
    go_wp2_with fail
    refine hK.out _ _ (HSS.out _ B6) (fun hH=>?_);clear hK K
    try simp only [putS]
    refine tq2 7 hH ?_;refine tq1 9 hH ?_;simp only [putS];have hCa:=B6.alloc B6.size (.cells #[.int .i64 0,.int .i64 0,.int .i64 0,.slice none 0 0] 107);refine rd 10 (some 8) fun K hK=>?_;clear hH;go_simp;refine hK.out _ _ (HSS.out _ hCa) (fun hH=>?_);clear hK K
    try simp only [putS]
    obtain⟨gx,hg0⟩:∃ g,g=U6.heap.size:=⟨_,rfl⟩;obtain⟨Ua,hUa⟩:∃ W,W=U6.alloc (.cells #[.int .i64 0,.int .i64 0,.int .i64 0,.slice none 0 0] 107):=⟨_,rfl⟩;have kx:Bk Ua gx 107 [.int .i64 0,.int .i64 0,.int .i64 0,.slice none 0 0]:=by rw [hUa,hg0];exact Bk.new U6 _ _
    have Ba:Below wb.heap.size wb Ua:=by rw [hUa];exact hCa
    have ba:Below U6.heap.size U6 Ua:=by rw [hUa];exact bal
    have hgl:wb.heap.size<=gx:=by rw [hg0];exact B6.size
    rw [<- hUa]at hH ⊢;rw [<- hg0];have BZ:=Ba;have hgx:wb.heap.size<=gx/\gx∉fS:=⟨hgl,fun e=>by have:=oS.lt (rPlanStep_ok NB) gx e;omega⟩;replace oS:=oS.belowS (rPlanStep_ok NB) ba;have fS9:Fr wb.heap.size fS:=fX.mono B5.size;clear hUa hg0 hCa Ba ba hgl B3 B5 B6 hb3 hb5 hb6 rT fX oX;have ⟨r0,z0,r1,z1,r2,z2,r3,z3⟩:=kx.r4;have hC9:=bls4 BZ hgx.1 (.int .i64 E.fMask) (.int .i64 E.fOrder) (.int .i64 E.fCost) (.slice AX nX cX);refine rd 11 none fun K hK=>?_;clear hH;go_simp;refine hK.out _ _ (HSS.out _ hC9) (fun hH=>?_);clear hK K
    try simp only [putS]
    refine tq1 12 hH ?_;simp only [putS];refine wpAnyH_done (by kernel_rfl) ?_ _;clear hH;obtain⟨W9,hW9⟩:∃ W,W=(((Ua.setCell ⟨gx,0,none⟩ (.int .i64 E.fMask)).setCell ⟨gx,1,none⟩ (.int .i64 E.fOrder)).setCell ⟨gx,2,none⟩ (.int .i64 E.fCost)).setCell ⟨gx,3,none⟩ (.slice AX nX cX):=⟨_,rfl⟩;have k9:Bk W9 gx 107 [.int .i64 E.fMask,.int .i64 E.fOrder,.int .i64 E.fCost,.slice AX nX cX]:=by rw [hW9];exact kx.put4 _ _ _ _
    have B9:Below wb.heap.size wb W9:=by rw [hW9];exact hC9
    have o9:OS NB 173 (rPlanStep NB) W9 fS AX nX cX E.fPlan.fSteps:=by rw [hW9];exact oS.okeep (rPlanStep_ok NB) (fun z hz=>set4_ne (fun e=>hgx.2 (by rw [<- e];exact hz)) _ _ _ _)
    rw [<- hW9];have hgx9:=hgx.1;clear hW9 kx hC9 oS r0 z0 r1 z1 r2 z2 r3 z3 BZ hgx
   rotate_left
   focus
    have hCa:=B5.alloc B5.size (.cells #[.int .i64 0,.int .i64 0,.int .i64 0,.slice none 0 0] 107);go_simp;refine hK.out _ _ (HSS.out _ hCa) (fun hH=>?_);clear hK K
    try simp only [putS]
    obtain⟨gx,hg0⟩:∃ g,g=U5.heap.size:=⟨_,rfl⟩;obtain⟨Ua,hUa⟩:∃ W,W=U5.alloc (.cells #[.int .i64 0,.int .i64 0,.int .i64 0,.slice none 0 0] 107):=⟨_,rfl⟩;have kx:Bk Ua gx 107 [.int .i64 0,.int .i64 0,.int .i64 0,.slice none 0 0]:=by rw [hUa,hg0];exact Bk.new U5 _ _
    have Ba:Below wb.heap.size wb Ua:=by rw [hUa];exact hCa
    have ba:Below U5.heap.size U5 Ua:=by rw [hUa];exact bal
    have hgl:wb.heap.size<=gx:=by rw [hg0];exact B5.size
    rw [<- hUa]at hH ⊢;rw [<- hg0];clear hUa hg0 hCa;replace rT:=rT.below (rPlanEntry_ok NB) ba;clear ba;have hxl:=kx.lt;refine rd 6 (some 17) fun K hK=>?_;clear hH;go_simp;refine(sBest_c AT nT cT (tabV m q z) (fullMask q) _ rT).mono ?_;rintro e U6 ⟨csX,fS,rfl,oX,fX,hb6⟩;rw [HE.out]at oX;rw [HBB.out];obtain⟨AX,nX,cX,fS,rfl,rfl,i0,i1,i2,oS⟩:=rPlanEntry_own.1 oX;have B6:Below wb.heap.size wb U6:=Ba.trans (hb6.mono Ba.size)
    go_wp2_with fail
    refine hK.out _ _ (HSS.out _ B6) (fun hH=>?_);clear hK K
    try simp only [putS]
    refine tq2 7 hH ?_;refine tq1 9 hH ?_;simp only [putS];replace kx:=kx.below hb6;have BZ:=B6;have hgx:wb.heap.size<=gx/\gx∉fS:=⟨hgl,fun e=>by have:=fX.ge gx e;omega⟩;have fS9:Fr wb.heap.size fS:=fX.mono Ba.size;clear hgl hxl B6 Ba hb6 fX oX rT B3 hb3 hb5 B5;have ⟨r0,z0,r1,z1,r2,z2,r3,z3⟩:=kx.r4;have hC9:=bls4 BZ hgx.1 (.int .i64 E.fMask) (.int .i64 E.fOrder) (.int .i64 E.fCost) (.slice AX nX cX);refine rd 11 none fun K hK=>?_;clear hH;go_simp;refine hK.out _ _ (HSS.out _ hC9) (fun hH=>?_);clear hK K
    try simp only [putS]
    refine tq1 12 hH ?_;simp only [putS];refine wpAnyH_done (by kernel_rfl) ?_ _;clear hH;obtain⟨W9,hW9⟩:∃ W,W=(((U6.setCell ⟨gx,0,none⟩ (.int .i64 E.fMask)).setCell ⟨gx,1,none⟩ (.int .i64 E.fOrder)).setCell ⟨gx,2,none⟩ (.int .i64 E.fCost)).setCell ⟨gx,3,none⟩ (.slice AX nX cX):=⟨_,rfl⟩;have k9:Bk W9 gx 107 [.int .i64 E.fMask,.int .i64 E.fOrder,.int .i64 E.fCost,.slice AX nX cX]:=by rw [hW9];exact kx.put4 _ _ _ _
    have B9:Below wb.heap.size wb W9:=by rw [hW9];exact hC9
    have o9:OS NB 173 (rPlanStep NB) W9 fS AX nX cX E.fPlan.fSteps:=by rw [hW9];exact oS.okeep (rPlanStep_ok NB) (fun z hz=>set4_ne (fun e=>hgx.2 (by rw [<- e];exact hz)) _ _ _ _)
    rw [<- hW9];have hgx9:=hgx.1;clear hW9 kx hC9 oS r0 z0 r1 z1 r2 z2 r3 z3 BZ hgx
  rotate_left 2
  focus
   have hCa:=B3.alloc B3.size (.cells #[.int .i64 0,.int .i64 0,.int .i64 0,.slice none 0 0] 107);go_simp;refine hK.out _ _ (HSS.out _ hCa) (fun hH=>?_);clear hK K
   try simp only [putS]
   obtain⟨gx,hg0⟩:∃ g,g=U3.heap.size:=⟨_,rfl⟩;obtain⟨Ua,hUa⟩:∃ W,W=U3.alloc (.cells #[.int .i64 0,.int .i64 0,.int .i64 0,.slice none 0 0] 107):=⟨_,rfl⟩;have kx:Bk Ua gx 107 [.int .i64 0,.int .i64 0,.int .i64 0,.slice none 0 0]:=by rw [hUa,hg0];exact Bk.new U3 _ _
   have Ba:Below wb.heap.size wb Ua:=by rw [hUa];exact hCa
   have ba:Below U3.heap.size U3 Ua:=by rw [hUa];exact bal
   have hgl:wb.heap.size<=gx:=by rw [hg0];exact B3.size
   rw [<- hUa]at hH ⊢;rw [<- hg0];clear hUa hg0 hCa;replace rT:=rT.below (rPlanEntry_ok NB) ba;clear ba;refine rd 5 (some 16) fun K hK=>?_;clear hH;go_simp;refine(sFullMask_c _ q _ ((rQuery_ok NB).keep rq (cells_below (hB.trans (Ba.mono hB.size))))).mono ?_;rintro e U5 ⟨rfl,hb5⟩;have B5:Below wb.heap.size wb U5:=Ba.trans (hb5.mono Ba.size);replace rT:=rT.below (rPlanEntry_ok NB) hb5
   go_wp2_with fail
   refine hK.out _ _ (HSS.out _ B5) (fun hH=>?_);clear hK K
   try simp only [putS]
   replace kx:=kx.below hb5;have hxl:=kx.lt;refine rd 6 (some 17) fun K hK=>?_;clear hH;go_simp;refine(sBest_c AT nT cT (tabV m q z) (fullMask q) _ rT).mono ?_;rintro e U6 ⟨csX,fS,rfl,oX,fX,hb6⟩;rw [HE.out]at oX;rw [HBB.out];obtain⟨AX,nX,cX,fS,rfl,rfl,i0,i1,i2,oS⟩:=rPlanEntry_own.1 oX;have B6:Below wb.heap.size wb U6:=B5.trans (hb6.mono B5.size)
   go_wp2_with fail
   refine hK.out _ _ (HSS.out _ B6) (fun hH=>?_);clear hK K
   try simp only [putS]
   refine tq2 7 hH ?_;refine tq1 9 hH ?_;simp only [putS];replace kx:=kx.below hb6;have BZ:=B6;have hgx:wb.heap.size<=gx/\gx∉fS:=⟨hgl,fun e=>by have:=fX.ge gx e;omega⟩;have fS9:Fr wb.heap.size fS:=fX.mono B5.size;clear hgl hxl B6 Ba hb6 fX oX rT B3 hb3 hb5 B5;have ⟨r0,z0,r1,z1,r2,z2,r3,z3⟩:=kx.r4;have hC9:=bls4 BZ hgx.1 (.int .i64 E.fMask) (.int .i64 E.fOrder) (.int .i64 E.fCost) (.slice AX nX cX);refine rd 11 none fun K hK=>?_;clear hH;go_simp;refine hK.out _ _ (HSS.out _ hC9) (fun hH=>?_);clear hK K
   try simp only [putS]
   refine tq1 12 hH ?_;simp only [putS];refine wpAnyH_done (by kernel_rfl) ?_ _;clear hH;obtain⟨W9,hW9⟩:∃ W,W=(((U6.setCell ⟨gx,0,none⟩ (.int .i64 E.fMask)).setCell ⟨gx,1,none⟩ (.int .i64 E.fOrder)).setCell ⟨gx,2,none⟩ (.int .i64 E.fCost)).setCell ⟨gx,3,none⟩ (.slice AX nX cX):=⟨_,rfl⟩;have k9:Bk W9 gx 107 [.int .i64 E.fMask,.int .i64 E.fOrder,.int .i64 E.fCost,.slice AX nX cX]:=by rw [hW9];exact kx.put4 _ _ _ _
   have B9:Below wb.heap.size wb W9:=by rw [hW9];exact hC9
   have o9:OS NB 173 (rPlanStep NB) W9 fS AX nX cX E.fPlan.fSteps:=by rw [hW9];exact oS.okeep (rPlanStep_ok NB) (fun z hz=>set4_ne (fun e=>hgx.2 (by rw [<- e];exact hz)) _ _ _ _)
   rw [<- hW9];have hgx9:=hgx.1;clear hW9 kx hC9 oS r0 z0 r1 z1 r2 z2 r3 z3 BZ hgx
 rotate_left 3
 focus
  have hCa:=hd0.alloc hd0.size (.cells #[.int .i64 0,.int .i64 0,.int .i64 0,.slice none 0 0] 107);go_simp;refine hK.out _ _ (HSS.out _ hCa) (fun hH=>?_);clear hK K
  try simp only [putS]
  obtain⟨gx,hg0⟩:∃ g,g=wb.heap.size:=⟨_,rfl⟩;obtain⟨Ua,hUa⟩:∃ W,W=(wb.alloc (.cells #[.int .i64 0,.int .i64 0,.int .i64 0,.slice none 0 0] 107)).drew:=⟨_,rfl⟩;have kx:Bk Ua gx 107 [.int .i64 0,.int .i64 0,.int .i64 0,.slice none 0 0]:=by rw [hUa,hg0];exact Bk.new wb _ _
  have Ba:Below wb.heap.size wb Ua:=by rw [hUa];exact hCa
  have hgl:wb.heap.size<=gx:=by rw [hg0];exact Nat.le_refl _
  rw [<- hUa]at hH ⊢;rw [<- hg0];clear hUa hg0 hCa;refine rd 3 (some 14) fun K hK=>?_;clear hH;go_simp;refine(sPlanTable_c csm m _ q Az nz cz z _ ((rModel_ok NB).keep rm (cells_below (hB.trans (Ba.mono hB.size)))) ((rQuery_ok NB).keep rq (cells_below (hB.trans (Ba.mono hB.size)))) (hz.below rInt_ok (hB.trans (Ba.mono hB.size)))).mono ?_;rintro e U3 ⟨AT,nT,cT,rfl,rT,hb3⟩;have B3:Below wb.heap.size wb U3:=Ba.trans (hb3.mono Ba.size)
  go_wp2_with fail
  refine hK.out _ _ (HSS.out _ B3) (fun hH=>?_);clear hK K
  try simp only [putS]
  replace kx:=kx.below hb3;refine rd 5 (some 16) fun K hK=>?_;clear hH;go_simp;refine(sFullMask_c _ q _ ((rQuery_ok NB).keep rq (cells_below (hB.trans (B3.mono hB.size))))).mono ?_;rintro e U5 ⟨rfl,hb5⟩;have B5:Below wb.heap.size wb U5:=B3.trans (hb5.mono B3.size);replace rT:=rT.below (rPlanEntry_ok NB) hb5
  go_wp2_with fail
  refine hK.out _ _ (HSS.out _ B5) (fun hH=>?_);clear hK K
  try simp only [putS]
  replace kx:=kx.below hb5;have hxl:=kx.lt;refine rd 6 (some 17) fun K hK=>?_;clear hH;go_simp;refine(sBest_c AT nT cT (tabV m q z) (fullMask q) _ rT).mono ?_;rintro e U6 ⟨csX,fS,rfl,oX,fX,hb6⟩;rw [HE.out]at oX;rw [HBB.out];obtain⟨AX,nX,cX,fS,rfl,rfl,i0,i1,i2,oS⟩:=rPlanEntry_own.1 oX;have B6:Below wb.heap.size wb U6:=B5.trans (hb6.mono B5.size)
  go_wp2_with fail
  refine hK.out _ _ (HSS.out _ B6) (fun hH=>?_);clear hK K
  try simp only [putS]
  refine tq2 7 hH ?_;refine tq1 9 hH ?_;simp only [putS];replace kx:=kx.below hb6;have BZ:=B6;have hgx:wb.heap.size<=gx/\gx∉fS:=⟨hgl,fun e=>by have:=fX.ge gx e;omega⟩;have fS9:Fr wb.heap.size fS:=fX.mono B5.size;clear hgl hxl B6 Ba hb6 fX oX rT B3 hb3 hb5 B5;have ⟨r0,z0,r1,z1,r2,z2,r3,z3⟩:=kx.r4;have hC9:=bls4 BZ hgx.1 (.int .i64 E.fMask) (.int .i64 E.fOrder) (.int .i64 E.fCost) (.slice AX nX cX);refine rd 11 none fun K hK=>?_;clear hH;go_simp;refine hK.out _ _ (HSS.out _ hC9) (fun hH=>?_);clear hK K
  try simp only [putS]
  refine tq1 12 hH ?_;simp only [putS];refine wpAnyH_done (by kernel_rfl) ?_ _;clear hH;obtain⟨W9,hW9⟩:∃ W,W=(((U6.setCell ⟨gx,0,none⟩ (.int .i64 E.fMask)).setCell ⟨gx,1,none⟩ (.int .i64 E.fOrder)).setCell ⟨gx,2,none⟩ (.int .i64 E.fCost)).setCell ⟨gx,3,none⟩ (.slice AX nX cX):=⟨_,rfl⟩;have k9:Bk W9 gx 107 [.int .i64 E.fMask,.int .i64 E.fOrder,.int .i64 E.fCost,.slice AX nX cX]:=by rw [hW9];exact kx.put4 _ _ _ _
  have B9:Below wb.heap.size wb W9:=by rw [hW9];exact hC9
  have o9:OS NB 173 (rPlanStep NB) W9 fS AX nX cX E.fPlan.fSteps:=by rw [hW9];exact oS.okeep (rPlanStep_ok NB) (fun z hz=>set4_ne (fun e=>hgx.2 (by rw [<- e];exact hz)) _ _ _ _)
  rw [<- hW9];have hgx9:=hgx.1;clear hW9 kx hC9 oS r0 z0 r1 z1 r2 z2 r3 z3 BZ hgx
 all_goals
  have kR9:=kR.below B9;have hB9:=hB.trans (B9.mono hB.size);have hltR:=kR.lt;have hgne:gx≠gR:=by omega
  have ⟨z0,y0,z1,y1,z2,y2,z3,y3⟩:=kR9.r4;have ⟨u0,v0,u1,v1,u2,v2,u3,v3⟩:=k9.r4;clear HSS hd0;go_wp2;have kR8:=kR9.put4 (.int .i64 E.fMask) (.int .i64 E.fOrder) (.int .i64 E.fCost) (.slice AX nX cX);refine bodyPost_ret (v:=.tuple #[.agg #[.int .i64 E.fMask,.int .i64 E.fOrder,.int .i64 E.fCost,.slice AX nX cX],.bool bb]) (results_cs Tryz.results165 rfl rfl kR8.rangeAt Tryz.underlying107 rfl sizeEntT) rfl ?_;refine⟨_,_,rfl,rPlanEntry_own.2 ⟨AX,nX,cX,_,rfl,rfl,i0,i1,i2,o9.okeep (rPlanStep_ok NB) (fun z hz=>?_)⟩,fS9.mono hB.size,bls4 hB9 hgR0 _ _ _ _⟩;have hz1:=fS9.ge z hz;exact set4_ne (by omega) _ _ _ _
theorem sOptimalCost_c (csm:List Value) (m:ModelD) (csq:List Value) (q:QueryD) (Az:Option Addr) (nz cz:Nat) (z:List Int) (w:World) (hm:(rModel NB).rep w csm m) (hq:(rQuery NB).rep w csq q) (hz:RS NB rInt w Az nz cz z) :
  Calls Tryz.prog 96 #[.agg csm.toArray,.agg csq.toArray,.slice Az nz cz] w fun e w'=>e=.returned (.int .i64 (costV (optV m q z)))/\Below w.heap.size w w':=by
 have rm:=hm;have lenm:=(rModel_ok NB).len hm;clear hm;have rq:=hq;obtain⟨Aq_e,nq_e,cq_e,rfl,hq_p5,hq_e⟩:=rQuery_rep.1 hq;clear hq;obtain⟨hB,bxm,bxq⟩:=op2 w csm 46 [.int .i64 q.fVariableCount,.slice Aq_e nq_e cq_e] 50;have lenm':csm.length=30:=lenm;clear lenm;obtain⟨x,hx⟩:∃ x,optV m q z=x:=⟨_,rfl⟩;have HX:=Lib.hid hx;rw [hx];clear hx
 go_enter Tryz.func96,Tryz.ntmps96
 have kq_0:=bxq 0 _ rfl;have kq_1:=bxq 1 _ rfl
 go_wp2_with (refine wpList_load_mid rfl 46 _ rfl w.heap.size 0 rfl csm _ bxm.range Tryz.underlying46 rfl (by rw [lenm'];exact sizeModel) ?_)
 refine(sL26Best_c _ m _ q _ _ _ z _ ((rModel_ok NB).keep rm (cells_below hB)) ((rQuery_ok NB).keep rq (cells_below hB)) (hz.below rInt_ok hB)).mono ?_;rintro e w1 ⟨cs6,fp6,rfl,o6,f6,hb1⟩;replace hB:=hB.trans (hb1.mono hB.size);replace bxm:=bxm.below hb1;replace bxq:=bxq.below hb1;clear hb1 kq_0 kq_1;rw [HX.out]at o6 ⊢;clear f6;obtain⟨AX,nX,cX,fS,rfl,_,i0,i1,i2,oS⟩:=rPlanEntry_own.1 o6;clear o6 oS;cases x with
 | none =>
  go_wp2;go_ret;exact⟨rfl,hB.alloc hB.size _⟩
 | some E =>
  go_wp2;go_ret;exact⟨rfl,hB.alloc hB.size _⟩
theorem sOptimalCostAt_c (csm:List Value) (m:ModelD) (csq:List Value) (q:QueryD) (Az:Option Addr) (nz cz:Nat) (z:List Int) (w:World) (hm:(rModel NB).rep w csm m) (hq:(rQuery NB).rep w csq q) (hz:RS NB rInt w Az nz cz z) :
  Calls Tryz.prog 36 #[.agg csm.toArray,.agg csq.toArray,.slice Az nz cz] w fun e w'=>e=.returned (.int .i64 (optC m q z))/\Below w.heap.size w w':=by
 have rm:=hm;have lenm:=(rModel_ok NB).len hm;clear hm;have rq:=hq;obtain⟨Aq_e,nq_e,cq_e,rfl,hq_p5,hq_e⟩:=rQuery_rep.1 hq;clear hq;obtain⟨hB,bxm,bxq⟩:=op2 w csm 46 [.int .i64 q.fVariableCount,.slice Aq_e nq_e cq_e] 50;have lenm':csm.length=30:=lenm;clear lenm;have hnz:=hz.bound;obtain⟨wb,hwb⟩:∃ W,W=((w.alloc (.cells csm.toArray 46)).alloc (.cells #[.int .i64 q.fVariableCount,.slice Aq_e nq_e cq_e] 50)):=⟨_,rfl⟩;rw [<- hwb]at hB bxm bxq
 have HSS:Hid (∀ w',Below wb.heap.size wb w'->(w'.rangeAt w.heap.size 0 csm/\w'.cell? ⟨w.heap.size+1,0,none⟩=some (.int .i64 q.fVariableCount)/\w'.cell? ⟨w.heap.size+1,1,none⟩=some (.slice Aq_e nq_e cq_e))):=by
  show ∀ w',_->_;intro w' hb;exact⟨(bxm.below hb).range,(bxq.below hb) 0 _ rfl,(bxq.below hb) 1 _ rfl⟩
 have hd0:=(Below.refl wb.heap.size wb).drew;have hX0:=hB.trans (hd0.mono hB.size)
 go_enter Tryz.func36,Tryz.ntmps36
 go_upto_region 1 with fail
 rw [<- hwb];clear hwb;refine hbg HSS.out (Below.refl _ _).drew (fun hH=>?_);refine ldm 0 7 (fun w h=>h.1) Tryz.underlying46 (by rw [lenm'];exact sizeModelT) hH ?_;refine tq2 1 hH ?_;simp only [putS];refine rd 3 (some 10) fun K hK=>?_;clear hH;go_simp;refine(sLocationSizes_c _ _ _ z _ (hz.below rInt_ok hX0)).mono ?_;rintro e u1 ⟨A1,n1,c1,rfl,m1,hb1⟩;have hC1:Below wb.heap.size wb u1:=hd0.trans (hb1.mono hd0.size)
 go_wp2_with fail
 refine hK.out _ _ (HSS.out _ hC1) (fun hH=>?_);clear hK K
 try simp only [putS]
 have hX1:=hB.trans (hC1.mono hB.size);refine rd 4 (some 11) fun K hK=>?_;clear hH;go_simp;refine(sOptimalCost_c csm m _ q _ _ _ (locSizes z) _ ((rModel_ok NB).keep rm (cells_below hX1)) ((rQuery_ok NB).keep rq (cells_below hX1)) (m1.rs rInt_ok)).mono ?_;rintro e u2 ⟨rfl,hb2⟩;have hC2:Below wb.heap.size wb u2:=hC1.trans (hb2.mono hC1.size)
 go_wp2_with fail
 refine hK.out _ _ (HSS.out _ hC2) (fun hH=>?_);clear hK K
 try simp only [putS]
 refine tq1 5 hH ?_;simp only [putS];refine wpAnyH_done (by kernel_rfl) ?_ _;clear hH;go_wp2;go_ret;exact⟨rfl,hB.trans (hC2.mono hB.size)⟩
end Go.Proofs.YtnlcfkpcmfljeaaGreat
