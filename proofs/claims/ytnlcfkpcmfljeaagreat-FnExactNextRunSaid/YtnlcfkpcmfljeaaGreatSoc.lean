/-
  Soc
-/
import Derived.Test.YtnlcfkpcmfljeaaGreatTbs
import Derived.Test.YtnlcfkpcmfljeaaGreatEpl
import Derived.Test.YtnlcfkpcmfljeaaGreatBsp
import Derived.Test.YtnlcfkpcmfljeaaGreatPii
import Derived.Test.YtnlcfkpcmfljeaaGreatKeep
import Derived.Test.YtnlcfkpcmfljeaaGreatIbe
import Derived.Test.YtnlcfkpcmfljeaaGreatVbp
import Derived.Test.YtnlcfkpcmfljeaaGreatTrip
import Derived.Test.YtnlcfkpcmfljeaaGreatBox
import Derived.Test.YtnlcfkpcmfljeaaGreatSlk
import Derived.Test.YtnlcfkpcmfljeaaGreatJss
set_option linter.unusedSimpArgs false
set_option linter.unusedVariables false
set_option maxHeartbeats 12800000
set_option maxRecDepth 100000
namespace Go.Proofs.YtnlcfkpcmfljeaaGreat
open Go.RowKit
attribute [local go_sem ↓] Go.wp_at_zero Go.wp_at_succ
theorem sPlanTable_c (csm:List Value) (m:ModelD) (csq:List Value) (q:QueryD) (Az:Option Addr) (nz cz:Nat) (z:List Int) (w:World) (hm:(rModel NB).rep w csm m) (hq:(rQuery NB).rep w csq q) (hz:RS NB rInt w Az nz cz z) :
  Calls Tryz.prog 218 #[.agg csm.toArray,.agg csq.toArray,.slice Az nz cz] w (fun e W=>∃ A n c,e=.returned (.slice A n c)/\RS NB (rPlanEntry NB) W A n c (tabV m q z)/\Below w.heap.size w W):=by
 have rm:=hm
 have lenm:=(rModel_ok NB).len hm
 clear hm
 have rq:=hq
 obtain⟨AqAtoms,nqAtoms,cqAtoms,rfl,hqVariableCount,hqAtoms⟩:=rQuery_rep.1 hq
 clear hq
 obtain⟨hB,bxm,bxq⟩:=op2 w csm 46 [.int .i64 q.fVariableCount,.slice AqAtoms nqAtoms cqAtoms] 50
 have lenm':csm.length=30:=lenm
 clear lenm
 have hnz:=hz.bound
 go_enter Tryz.func218,Tryz.ntmps218
 go_wp2_with (refine wpList_load_mid rfl 46 _ rfl w.heap.size 0 rfl csm _ bxm.range Tryz.underlying46 rfl (by rw [lenm'];exact sizeModel) ?_)
 refine(sIsAdmitted_c _ m _ ((rModel_ok NB).keep rm (cells_below hB))).mono ?_
 rintro e w1 ⟨rfl,hb1⟩
 replace hB:=hB.trans (hb1.mono hB.size)
 replace bxm:=bxm.below hb1
 replace bxq:=bxq.below hb1
 clear hb1
 cases e1:admitted m
 ·have HN:Hid (tabV m q z=[]):=by show _=_;unfold tabV;rw [e1];rfl
  clear e1
  go_wp2
  go_ret
  rw [HN.out]
  exact⟨_,_,_,rfl,RS.nil _ _ _ _ _,by first|exact hB|exact hB.alloc hB.size _⟩
 have H1:=Lib.hid e1;clear e1
 have kq_0:=bxq 0 _ rfl
 have kq_1:=bxq 1 _ rfl
 go_wp2_with fail
 refine(sIsSizeVector_c _ q _ _ _ z _ ((rQuery_ok NB).keep rq (cells_below hB)) (hz.below rInt_ok hB)).mono ?_
 rintro e w2 ⟨rfl,hb2⟩
 replace hB:=hB.trans (hb2.mono hB.size)
 replace bxm:=bxm.below hb2
 replace bxq:=bxq.below hb2
 clear hb2 kq_0 kq_1
 cases e1:isSizes q z
 ·have HN:Hid (tabV m q z=[]):=by show _=_;unfold tabV;rw [e1,Bool.and_false];rfl
  clear e1
  go_wp2
  go_ret
  rw [HN.out]
  exact⟨_,_,_,rfl,RS.nil _ _ _ _ _,by first|exact hB|exact hB.alloc hB.size _⟩
 obtain⟨hq1,hq2,_⟩:=isSizes_parts e1
 have hfz:fullMask q<z.length:=by unfold fullMask;rw [if_pos hq1];omega
 have hz16:z.length<=16:=by
  have:(2:Nat) ^ q.fAtoms.length<=2 ^ 4:=Nat.pow_le_pow_right (by omega) (validQ_parts hq1).2.2.2.1
  omega
 have HN:Hid (tabV m q z=tableE m q z):=by show _=_;unfold tabV;rw [H1.out,e1];rfl
 have HQ:=Lib.hid hq1
 clear e1 hq1 hq2
 rename World=>wb
 have HSS:Hid (∀ w',Below wb.heap.size wb w'->(w'.rangeAt w.heap.size 0 csm/\w'.cell? ⟨w.heap.size+1,0,none⟩=some (.int .i64 q.fVariableCount)/\w'.cell? ⟨w.heap.size+1,1,none⟩=some (.slice AqAtoms nqAtoms cqAtoms))):=by
  show ∀ w',_->_
  intro w' hb
  exact⟨(bxm.below hb).range,(bxq.below hb) 0 _ rfl,(bxq.below hb) 1 _ rfl⟩
 have hd0:=(Below.refl wb.heap.size wb).drew
 go_upto_region 3 with fail
 refine hbg HSS.out (Below.refl _ _).drew (fun hH=>?_)
 refine ldm 0 17 (fun w h=>h.1) Tryz.underlying46 (by rw [lenm'];exact sizeModelT) hH ?_;refine tka 1 18 hH ?_;refine tka 2 19 hH ?_;refine tka 4 21 hH ?_;simp only [putS]
 have hX0:=hB.trans (hd0.mono hB.size)
 refine rd 3 (some 20) fun K hK=>?_
 clear hH
 go_simp
 refine(sShapes_c _ q _ ((rQuery_ok NB).keep rq (cells_below hX0)) HQ.out).mono ?_
 rintro e u1 ⟨Ash,nsh,csh,rfl,hsh,hb1⟩
 have hC1:Below wb.heap.size wb u1:=hd0.trans (hb1.mono hd0.size)
 go_wp2_with fail
 refine hK.out _ _ (HSS.out _ hC1) (fun hH=>?_)
 clear hK K
 try simp only [putS]
 have hX1:=hB.trans (hC1.mono hB.size)
 refine rd 5 (some 22) fun K hK=>?_
 clear hH
 go_simp
 refine(sTable_c csm m q AqAtoms nqAtoms cqAtoms Ash nsh csh Az nz cz z _ ((rModel_ok NB).keep rm (cells_below hX1)) (hqAtoms.below (rAtom_ok NB) hX1) (hsh.rs rShape_ok) (hz.below rInt_ok hX1) HQ.out hfz hz16).mono ?_
 rintro e u2 ⟨AT,nT,cT,rfl,PT5,hb2⟩
 have hC2:Below wb.heap.size wb u2:=hC1.trans (hb2.mono hC1.size)
 go_wp2_with fail
 refine hK.out _ _ (HSS.out _ hC2) (fun hH=>?_)
 clear hK K
 try simp only [putS]
 refine tka 6 6 hH ?_;simp only [putS]
 refine wpAnyH_done (by kernel_rfl) ?_ _
 clear hH
 go_wp2
 go_ret
 rw [HN.out]
 exact⟨_,_,_,rfl,PT5.rs (rPlanEntry_ok NB),hB.trans (hC2.mono hB.size)⟩
theorem sL26Best_c (csm:List Value) (m:ModelD) (csq:List Value) (q:QueryD) (Az:Option Addr) (nz cz:Nat) (z:List Int) (w:World) (hm:(rModel NB).rep w csm m) (hq:(rQuery NB).rep w csq q) (hz:RS NB rInt w Az nz cz z) :
  Calls Tryz.prog 165 #[.agg csm.toArray,.agg csq.toArray,.slice Az nz cz] w (RetVB (rPlanEntry NB) ((optV m q z).getD zPlanEntry) (.bool (optV m q z).isSome) w):=by
 have rm:=hm
 have lenm:=(rModel_ok NB).len hm
 clear hm
 have rq:=hq
 obtain⟨AqAtoms,nqAtoms,cqAtoms,rfl,hqVariableCount,hqAtoms⟩:=rQuery_rep.1 hq
 clear hq
 obtain⟨hB,bxm,bxq⟩:=op2 w csm 46 [.int .i64 q.fVariableCount,.slice AqAtoms nqAtoms cqAtoms] 50
 have lenm':csm.length=30:=lenm
 clear lenm
 have hnz:=hz.bound
 obtain⟨wA,hwA⟩:∃ W,W=((w.alloc (.cells csm.toArray 46)).alloc (.cells #[.int .i64 q.fVariableCount,.slice AqAtoms nqAtoms cqAtoms] 50)):=⟨_,rfl⟩
 rw [<- hwA]at hB bxm bxq
 have hsA:wA.heap.size=w.heap.size+1+1:=by rw [hwA];simp
 obtain⟨wb,hwb⟩:∃ W,W=wA.alloc (.cells #[.int .i64 0,.int .i64 0,.int .i64 0,.slice none 0 0] 107):=⟨_,rfl⟩
 have hb_wb:Below wA.heap.size wA wb:=by rw [hwb];exact(Below.refl wA.heap.size wA).alloc (Nat.le_refl _) _
 replace hB:=hB.trans (hb_wb.mono hB.size)
 replace bxm:=bxm.below hb_wb
 replace bxq:=bxq.below hb_wb
 clear hb_wb
 have kR:Bk wb wA.heap.size 107 [.int .i64 0,.int .i64 0,.int .i64 0,.slice none 0 0]:=by rw [hwb];exact Bk.new wA _ _
 rw [hsA]at kR
 obtain⟨E,hE⟩:∃ E,(optV m q z).getD zPlanEntry=E:=⟨_,rfl⟩
 obtain⟨bb,hbb⟩:∃ b,(optV m q z).isSome=b:=⟨_,rfl⟩
 have HE:Hid ((bestE (tabV m q z) (fullMask q)).getD zPlanEntry=E):=hE
 have HBB:Hid ((bestE (tabV m q z) (fullMask q)).isSome=bb):=hbb
 rw [hE,hbb]
 clear hE hbb
 obtain⟨gR,hgR⟩:∃ g,g=w.heap.size+1+1:=⟨_,rfl⟩
 rw [<- hgR]at kR
 have hgR0:w.heap.size<=gR:=by omega
 have HGR:=Lib.hid hgR
 go_enter Tryz.func165,Tryz.ntmps165
 go_upto_region 1 with fail
 rw [<- hwA,<- hwb,<- hgR]
 clear hwA hwb hsA hgR
 have HSS:Hid (∀ w',Below wb.heap.size wb w'->(w'.rangeAt w.heap.size 0 csm/\w'.cell? ⟨w.heap.size+1,0,none⟩=some (.int .i64 q.fVariableCount)/\w'.cell? ⟨w.heap.size+1,1,none⟩=some (.slice AqAtoms nqAtoms cqAtoms))):=by
  show ∀ w',_->_
  intro w' hb
  exact⟨(bxm.below hb).range,(bxq.below hb) 0 _ rfl,(bxq.below hb) 1 _ rfl⟩
 have hd0:=(Below.refl wb.heap.size wb).drew
 refine hbg HSS.out (Below.refl _ _).drew (fun hH=>?_)
 refine ldm 0 11 (fun w h=>h.1) Tryz.underlying46 (by rw [lenm'];exact sizeModelT) hH ?_;refine tka 1 12 hH ?_;refine tka 2 13 hH ?_;refine tka 4 15 hH ?_;simp only [putS]
 refine rd2 3 (some 14) 10 (some 8) (fun K hK=>?_) fun K hK=>?_
 all_goals clear hH
 focus
  go_simp
  refine(sPlanTable_c csm m _ q Az nz cz z _ ((rModel_ok NB).keep rm (cells_below (hB.trans (hd0.mono hB.size)))) ((rQuery_ok NB).keep rq (cells_below (hB.trans (hd0.mono hB.size)))) (hz.below rInt_ok (hB.trans (hd0.mono hB.size)))).mono ?_
  rintro e U3 ⟨AT,nT,cT,rfl,rT,hb3⟩
  have B3:Below wb.heap.size wb U3:=hd0.trans (hb3.mono hd0.size)
  go_wp2_with fail
  refine hK.out _ _ (HSS.out _ B3) (fun hH=>?_)
  clear hK K
  try simp only [putS]
  refine rd2 5 (some 16) 10 (some 8) (fun K hK=>?_) fun K hK=>?_
  all_goals clear hH
  focus
   go_simp
   refine(sFullMask_c _ q _ ((rQuery_ok NB).keep rq (cells_below (hB.trans (B3.mono hB.size))))).mono ?_
   rintro e U5 ⟨rfl,hb5⟩
   have B5:Below wb.heap.size wb U5:=B3.trans (hb5.mono B3.size)
   replace rT:=rT.below (rPlanEntry_ok NB) hb5
   go_wp2_with fail
   refine hK.out _ _ (HSS.out _ B5) (fun hH=>?_)
   clear hK K
   try simp only [putS]
   refine rd2 6 (some 17) 10 (some 8) (fun K hK=>?_) fun K hK=>?_
   all_goals clear hH
   focus
    go_simp
    refine(sBest_c AT nT cT (tabV m q z) (fullMask q) _ rT).mono ?_
    rintro e U6 ⟨csX,fS,rfl,oX,fX,hb6⟩
    rw [HE.out]at oX
    rw [HBB.out]
    obtain⟨AX,nX,cX,fS,rfl,rfl,i0,i1,i2,oS⟩:=rPlanEntry_own.1 oX
    have B6:Below wb.heap.size wb U6:=B5.trans (hb6.mono B5.size)
    go_wp2_with fail
    refine hK.out _ _ (HSS.out _ B6) (fun hH=>?_)
    clear hK K
    try simp only [putS]
    refine tka 7 10 hH ?_;refine tka 8 18 hH ?_;refine tka 9 19 hH ?_;simp only [putS]
    have hCa:=B6.alloc B6.size (.cells #[.int .i64 0,.int .i64 0,.int .i64 0,.slice none 0 0] 107)
    refine rd 10 (some 8) fun K hK=>?_
    clear hH
    go_simp
    refine hK.out _ _ (HSS.out _ hCa) (fun hH=>?_)
    clear hK K
    try simp only [putS]
    obtain⟨gx,hg0⟩:∃ g,g=U6.heap.size:=⟨_,rfl⟩
    obtain⟨Ua,hUa⟩:∃ W,W=U6.alloc (.cells #[.int .i64 0,.int .i64 0,.int .i64 0,.slice none 0 0] 107):=⟨_,rfl⟩
    have kx:Bk Ua gx 107 [.int .i64 0,.int .i64 0,.int .i64 0,.slice none 0 0]:=by rw [hUa,hg0];exact Bk.new U6 _ _
    have Ba:Below wb.heap.size wb Ua:=by rw [hUa];exact hCa
    have ba:Below U6.heap.size U6 Ua:=by rw [hUa];exact(Below.refl _ _).alloc (Nat.le_refl _) _
    have hgl:wb.heap.size<=gx:=by rw [hg0];exact B6.size
    rw [<- hUa]at hH ⊢
    rw [<- hg0]
    have BZ:=Ba
    have hgx:wb.heap.size<=gx/\gx∉fS:=⟨hgl,fun e=>by have:=oS.lt (rPlanStep_ok NB) gx e;omega⟩
    replace oS:=oS.belowS (rPlanStep_ok NB) ba
    have fS9:Fr wb.heap.size fS:=fX.mono B5.size
    clear hUa hg0 hCa Ba ba hgl B3 B5 B6 hb3 hb5 hb6 rT fX oX
    have ⟨r0,z0,r1,z1,r2,z2,r3,z3⟩:=kx.r4
    have hC9:=bls4 BZ hgx.1 (.int .i64 E.fMask) (.int .i64 E.fOrder) (.int .i64 E.fCost) (.slice AX nX cX)
    refine rd 11 none fun K hK=>?_
    clear hH
    go_simp
    refine hK.out _ _ (HSS.out _ hC9) (fun hH=>?_)
    clear hK K
    try simp only [putS]
    refine tka 12 9 hH ?_;simp only [putS]
    refine wpAnyH_done (by kernel_rfl) ?_ _
    clear hH
    obtain⟨W9,hW9⟩:∃ W,W=(((Ua.setCell ⟨gx,0,none⟩ (.int .i64 E.fMask)).setCell ⟨gx,1,none⟩ (.int .i64 E.fOrder)).setCell ⟨gx,2,none⟩ (.int .i64 E.fCost)).setCell ⟨gx,3,none⟩ (.slice AX nX cX):=⟨_,rfl⟩
    have k9:Bk W9 gx 107 [.int .i64 E.fMask,.int .i64 E.fOrder,.int .i64 E.fCost,.slice AX nX cX]:=by rw [hW9];exact kx.put4 _ _ _ _
    have B9:Below wb.heap.size wb W9:=by rw [hW9];exact hC9
    have o9:OS NB 173 (rPlanStep NB) W9 fS AX nX cX E.fPlan.fSteps:=by rw [hW9];exact oS.okeep (rPlanStep_ok NB) (fun z hz=>set4_ne (fun e=>hgx.2 (by rw [<- e];exact hz)) _ _ _ _)
    rw [<- hW9]
    have hgx9:=hgx.1
    clear hW9 kx hC9 oS r0 z0 r1 z1 r2 z2 r3 z3 BZ hgx
   rotate_left
   focus
    have hCa:=B5.alloc B5.size (.cells #[.int .i64 0,.int .i64 0,.int .i64 0,.slice none 0 0] 107)
    go_simp
    refine hK.out _ _ (HSS.out _ hCa) (fun hH=>?_)
    clear hK K
    try simp only [putS]
    obtain⟨gx,hg0⟩:∃ g,g=U5.heap.size:=⟨_,rfl⟩
    obtain⟨Ua,hUa⟩:∃ W,W=U5.alloc (.cells #[.int .i64 0,.int .i64 0,.int .i64 0,.slice none 0 0] 107):=⟨_,rfl⟩
    have kx:Bk Ua gx 107 [.int .i64 0,.int .i64 0,.int .i64 0,.slice none 0 0]:=by rw [hUa,hg0];exact Bk.new U5 _ _
    have Ba:Below wb.heap.size wb Ua:=by rw [hUa];exact hCa
    have ba:Below U5.heap.size U5 Ua:=by rw [hUa];exact(Below.refl _ _).alloc (Nat.le_refl _) _
    have hgl:wb.heap.size<=gx:=by rw [hg0];exact B5.size
    rw [<- hUa]at hH ⊢
    rw [<- hg0]
    clear hUa hg0 hCa
    replace rT:=rT.below (rPlanEntry_ok NB) ba
    clear ba
    have hxl:=kx.lt
    refine rd 6 (some 17) fun K hK=>?_
    clear hH
    go_simp
    refine(sBest_c AT nT cT (tabV m q z) (fullMask q) _ rT).mono ?_
    rintro e U6 ⟨csX,fS,rfl,oX,fX,hb6⟩
    rw [HE.out]at oX
    rw [HBB.out]
    obtain⟨AX,nX,cX,fS,rfl,rfl,i0,i1,i2,oS⟩:=rPlanEntry_own.1 oX
    have B6:Below wb.heap.size wb U6:=Ba.trans (hb6.mono Ba.size)
    go_wp2_with fail
    refine hK.out _ _ (HSS.out _ B6) (fun hH=>?_)
    clear hK K
    try simp only [putS]
    refine tka 7 10 hH ?_;refine tka 8 18 hH ?_;refine tka 9 19 hH ?_;simp only [putS]
    replace kx:=kx.below hb6
    have BZ:=B6
    have hgx:wb.heap.size<=gx/\gx∉fS:=⟨hgl,fun e=>by have:=fX.ge gx e;omega⟩
    have fS9:Fr wb.heap.size fS:=fX.mono Ba.size
    clear hgl hxl B6 Ba hb6 fX oX rT B3 hb3 hb5 B5
    have ⟨r0,z0,r1,z1,r2,z2,r3,z3⟩:=kx.r4
    have hC9:=bls4 BZ hgx.1 (.int .i64 E.fMask) (.int .i64 E.fOrder) (.int .i64 E.fCost) (.slice AX nX cX)
    refine rd 11 none fun K hK=>?_
    clear hH
    go_simp
    refine hK.out _ _ (HSS.out _ hC9) (fun hH=>?_)
    clear hK K
    try simp only [putS]
    refine tka 12 9 hH ?_;simp only [putS]
    refine wpAnyH_done (by kernel_rfl) ?_ _
    clear hH
    obtain⟨W9,hW9⟩:∃ W,W=(((U6.setCell ⟨gx,0,none⟩ (.int .i64 E.fMask)).setCell ⟨gx,1,none⟩ (.int .i64 E.fOrder)).setCell ⟨gx,2,none⟩ (.int .i64 E.fCost)).setCell ⟨gx,3,none⟩ (.slice AX nX cX):=⟨_,rfl⟩
    have k9:Bk W9 gx 107 [.int .i64 E.fMask,.int .i64 E.fOrder,.int .i64 E.fCost,.slice AX nX cX]:=by rw [hW9];exact kx.put4 _ _ _ _
    have B9:Below wb.heap.size wb W9:=by rw [hW9];exact hC9
    have o9:OS NB 173 (rPlanStep NB) W9 fS AX nX cX E.fPlan.fSteps:=by rw [hW9];exact oS.okeep (rPlanStep_ok NB) (fun z hz=>set4_ne (fun e=>hgx.2 (by rw [<- e];exact hz)) _ _ _ _)
    rw [<- hW9]
    have hgx9:=hgx.1
    clear hW9 kx hC9 oS r0 z0 r1 z1 r2 z2 r3 z3 BZ hgx
  rotate_left 2
  focus
   have hCa:=B3.alloc B3.size (.cells #[.int .i64 0,.int .i64 0,.int .i64 0,.slice none 0 0] 107)
   go_simp
   refine hK.out _ _ (HSS.out _ hCa) (fun hH=>?_)
   clear hK K
   try simp only [putS]
   obtain⟨gx,hg0⟩:∃ g,g=U3.heap.size:=⟨_,rfl⟩
   obtain⟨Ua,hUa⟩:∃ W,W=U3.alloc (.cells #[.int .i64 0,.int .i64 0,.int .i64 0,.slice none 0 0] 107):=⟨_,rfl⟩
   have kx:Bk Ua gx 107 [.int .i64 0,.int .i64 0,.int .i64 0,.slice none 0 0]:=by rw [hUa,hg0];exact Bk.new U3 _ _
   have Ba:Below wb.heap.size wb Ua:=by rw [hUa];exact hCa
   have ba:Below U3.heap.size U3 Ua:=by rw [hUa];exact(Below.refl _ _).alloc (Nat.le_refl _) _
   have hgl:wb.heap.size<=gx:=by rw [hg0];exact B3.size
   rw [<- hUa]at hH ⊢
   rw [<- hg0]
   clear hUa hg0 hCa
   replace rT:=rT.below (rPlanEntry_ok NB) ba
   clear ba
   refine rd 5 (some 16) fun K hK=>?_
   clear hH
   go_simp
   refine(sFullMask_c _ q _ ((rQuery_ok NB).keep rq (cells_below (hB.trans (Ba.mono hB.size))))).mono ?_
   rintro e U5 ⟨rfl,hb5⟩
   have B5:Below wb.heap.size wb U5:=Ba.trans (hb5.mono Ba.size)
   replace rT:=rT.below (rPlanEntry_ok NB) hb5
   go_wp2_with fail
   refine hK.out _ _ (HSS.out _ B5) (fun hH=>?_)
   clear hK K
   try simp only [putS]
   replace kx:=kx.below hb5
   have hxl:=kx.lt
   refine rd 6 (some 17) fun K hK=>?_
   clear hH
   go_simp
   refine(sBest_c AT nT cT (tabV m q z) (fullMask q) _ rT).mono ?_
   rintro e U6 ⟨csX,fS,rfl,oX,fX,hb6⟩
   rw [HE.out]at oX
   rw [HBB.out]
   obtain⟨AX,nX,cX,fS,rfl,rfl,i0,i1,i2,oS⟩:=rPlanEntry_own.1 oX
   have B6:Below wb.heap.size wb U6:=B5.trans (hb6.mono B5.size)
   go_wp2_with fail
   refine hK.out _ _ (HSS.out _ B6) (fun hH=>?_)
   clear hK K
   try simp only [putS]
   refine tka 7 10 hH ?_;refine tka 8 18 hH ?_;refine tka 9 19 hH ?_;simp only [putS]
   replace kx:=kx.below hb6
   have BZ:=B6
   have hgx:wb.heap.size<=gx/\gx∉fS:=⟨hgl,fun e=>by have:=fX.ge gx e;omega⟩
   have fS9:Fr wb.heap.size fS:=fX.mono B5.size
   clear hgl hxl B6 Ba hb6 fX oX rT B3 hb3 hb5 B5
   have ⟨r0,z0,r1,z1,r2,z2,r3,z3⟩:=kx.r4
   have hC9:=bls4 BZ hgx.1 (.int .i64 E.fMask) (.int .i64 E.fOrder) (.int .i64 E.fCost) (.slice AX nX cX)
   refine rd 11 none fun K hK=>?_
   clear hH
   go_simp
   refine hK.out _ _ (HSS.out _ hC9) (fun hH=>?_)
   clear hK K
   try simp only [putS]
   refine tka 12 9 hH ?_;simp only [putS]
   refine wpAnyH_done (by kernel_rfl) ?_ _
   clear hH
   obtain⟨W9,hW9⟩:∃ W,W=(((U6.setCell ⟨gx,0,none⟩ (.int .i64 E.fMask)).setCell ⟨gx,1,none⟩ (.int .i64 E.fOrder)).setCell ⟨gx,2,none⟩ (.int .i64 E.fCost)).setCell ⟨gx,3,none⟩ (.slice AX nX cX):=⟨_,rfl⟩
   have k9:Bk W9 gx 107 [.int .i64 E.fMask,.int .i64 E.fOrder,.int .i64 E.fCost,.slice AX nX cX]:=by rw [hW9];exact kx.put4 _ _ _ _
   have B9:Below wb.heap.size wb W9:=by rw [hW9];exact hC9
   have o9:OS NB 173 (rPlanStep NB) W9 fS AX nX cX E.fPlan.fSteps:=by rw [hW9];exact oS.okeep (rPlanStep_ok NB) (fun z hz=>set4_ne (fun e=>hgx.2 (by rw [<- e];exact hz)) _ _ _ _)
   rw [<- hW9]
   have hgx9:=hgx.1
   clear hW9 kx hC9 oS r0 z0 r1 z1 r2 z2 r3 z3 BZ hgx
 rotate_left 3
 focus
  have hCa:=hd0.alloc hd0.size (.cells #[.int .i64 0,.int .i64 0,.int .i64 0,.slice none 0 0] 107)
  go_simp
  refine hK.out _ _ (HSS.out _ hCa) (fun hH=>?_)
  clear hK K
  try simp only [putS]
  obtain⟨gx,hg0⟩:∃ g,g=wb.heap.size:=⟨_,rfl⟩
  obtain⟨Ua,hUa⟩:∃ W,W=(wb.alloc (.cells #[.int .i64 0,.int .i64 0,.int .i64 0,.slice none 0 0] 107)).drew:=⟨_,rfl⟩
  have kx:Bk Ua gx 107 [.int .i64 0,.int .i64 0,.int .i64 0,.slice none 0 0]:=by rw [hUa,hg0];exact Bk.new wb _ _
  have Ba:Below wb.heap.size wb Ua:=by rw [hUa];exact hCa
  have hgl:wb.heap.size<=gx:=by rw [hg0];exact Nat.le_refl _
  rw [<- hUa]at hH ⊢
  rw [<- hg0]
  clear hUa hg0 hCa
  refine rd 3 (some 14) fun K hK=>?_
  clear hH
  go_simp
  refine(sPlanTable_c csm m _ q Az nz cz z _ ((rModel_ok NB).keep rm (cells_below (hB.trans (Ba.mono hB.size)))) ((rQuery_ok NB).keep rq (cells_below (hB.trans (Ba.mono hB.size)))) (hz.below rInt_ok (hB.trans (Ba.mono hB.size)))).mono ?_
  rintro e U3 ⟨AT,nT,cT,rfl,rT,hb3⟩
  have B3:Below wb.heap.size wb U3:=Ba.trans (hb3.mono Ba.size)
  go_wp2_with fail
  refine hK.out _ _ (HSS.out _ B3) (fun hH=>?_)
  clear hK K
  try simp only [putS]
  replace kx:=kx.below hb3
  refine rd 5 (some 16) fun K hK=>?_
  clear hH
  go_simp
  refine(sFullMask_c _ q _ ((rQuery_ok NB).keep rq (cells_below (hB.trans (B3.mono hB.size))))).mono ?_
  rintro e U5 ⟨rfl,hb5⟩
  have B5:Below wb.heap.size wb U5:=B3.trans (hb5.mono B3.size)
  replace rT:=rT.below (rPlanEntry_ok NB) hb5
  go_wp2_with fail
  refine hK.out _ _ (HSS.out _ B5) (fun hH=>?_)
  clear hK K
  try simp only [putS]
  replace kx:=kx.below hb5
  have hxl:=kx.lt
  refine rd 6 (some 17) fun K hK=>?_
  clear hH
  go_simp
  refine(sBest_c AT nT cT (tabV m q z) (fullMask q) _ rT).mono ?_
  rintro e U6 ⟨csX,fS,rfl,oX,fX,hb6⟩
  rw [HE.out]at oX
  rw [HBB.out]
  obtain⟨AX,nX,cX,fS,rfl,rfl,i0,i1,i2,oS⟩:=rPlanEntry_own.1 oX
  have B6:Below wb.heap.size wb U6:=B5.trans (hb6.mono B5.size)
  go_wp2_with fail
  refine hK.out _ _ (HSS.out _ B6) (fun hH=>?_)
  clear hK K
  try simp only [putS]
  refine tka 7 10 hH ?_;refine tka 8 18 hH ?_;refine tka 9 19 hH ?_;simp only [putS]
  replace kx:=kx.below hb6
  have BZ:=B6
  have hgx:wb.heap.size<=gx/\gx∉fS:=⟨hgl,fun e=>by have:=fX.ge gx e;omega⟩
  have fS9:Fr wb.heap.size fS:=fX.mono B5.size
  clear hgl hxl B6 Ba hb6 fX oX rT B3 hb3 hb5 B5
  have ⟨r0,z0,r1,z1,r2,z2,r3,z3⟩:=kx.r4
  have hC9:=bls4 BZ hgx.1 (.int .i64 E.fMask) (.int .i64 E.fOrder) (.int .i64 E.fCost) (.slice AX nX cX)
  refine rd 11 none fun K hK=>?_
  clear hH
  go_simp
  refine hK.out _ _ (HSS.out _ hC9) (fun hH=>?_)
  clear hK K
  try simp only [putS]
  refine tka 12 9 hH ?_;simp only [putS]
  refine wpAnyH_done (by kernel_rfl) ?_ _
  clear hH
  obtain⟨W9,hW9⟩:∃ W,W=(((U6.setCell ⟨gx,0,none⟩ (.int .i64 E.fMask)).setCell ⟨gx,1,none⟩ (.int .i64 E.fOrder)).setCell ⟨gx,2,none⟩ (.int .i64 E.fCost)).setCell ⟨gx,3,none⟩ (.slice AX nX cX):=⟨_,rfl⟩
  have k9:Bk W9 gx 107 [.int .i64 E.fMask,.int .i64 E.fOrder,.int .i64 E.fCost,.slice AX nX cX]:=by rw [hW9];exact kx.put4 _ _ _ _
  have B9:Below wb.heap.size wb W9:=by rw [hW9];exact hC9
  have o9:OS NB 173 (rPlanStep NB) W9 fS AX nX cX E.fPlan.fSteps:=by rw [hW9];exact oS.okeep (rPlanStep_ok NB) (fun z hz=>set4_ne (fun e=>hgx.2 (by rw [<- e];exact hz)) _ _ _ _)
  rw [<- hW9]
  have hgx9:=hgx.1
  clear hW9 kx hC9 oS r0 z0 r1 z1 r2 z2 r3 z3 BZ hgx
 all_goals
  have kR9:=kR.below B9
  have hB9:=hB.trans (B9.mono hB.size)
  have hltR:=kR.lt
  have hgne:gx≠gR:=by omega
  have ⟨z0,y0,z1,y1,z2,y2,z3,y3⟩:=kR9.r4
  have ⟨u0,v0,u1,v1,u2,v2,u3,v3⟩:=k9.r4
  clear HSS hd0
  go_wp2
  have kR8:=kR9.put4 (.int .i64 E.fMask) (.int .i64 E.fOrder) (.int .i64 E.fCost) (.slice AX nX cX)
  refine bodyPost_ret (v:=.tuple #[.agg #[.int .i64 E.fMask,.int .i64 E.fOrder,.int .i64 E.fCost,.slice AX nX cX],.bool bb]) (results_cs Tryz.results165 rfl rfl kR8.rangeAt Tryz.underlying107 rfl sizeEntT) rfl ?_
  refine⟨_,_,rfl,rPlanEntry_own.2 ⟨AX,nX,cX,_,rfl,rfl,i0,i1,i2,o9.okeep (rPlanStep_ok NB) (fun z hz=>?_)⟩,fS9.mono hB.size,bls4 hB9 hgR0 _ _ _ _⟩
  have hz1:=fS9.ge z hz
  exact set4_ne (by omega) _ _ _ _
theorem sOptimalCost_c (csm:List Value) (m:ModelD) (csq:List Value) (q:QueryD) (Az:Option Addr) (nz cz:Nat) (z:List Int) (w:World) (hm:(rModel NB).rep w csm m) (hq:(rQuery NB).rep w csq q) (hz:RS NB rInt w Az nz cz z) :
  Calls Tryz.prog 96 #[.agg csm.toArray,.agg csq.toArray,.slice Az nz cz] w fun e w'=>e=.returned (.int .i64 (costV (optV m q z)))/\Below w.heap.size w w':=by
 have rm:=hm
 have lenm:=(rModel_ok NB).len hm
 clear hm
 have rq:=hq
 obtain⟨AqAtoms,nqAtoms,cqAtoms,rfl,hqVariableCount,hqAtoms⟩:=rQuery_rep.1 hq
 clear hq
 obtain⟨hB,bxm,bxq⟩:=op2 w csm 46 [.int .i64 q.fVariableCount,.slice AqAtoms nqAtoms cqAtoms] 50
 have lenm':csm.length=30:=lenm
 clear lenm
 obtain⟨x,hx⟩:∃ x,optV m q z=x:=⟨_,rfl⟩
 have HX:=Lib.hid hx
 rw [hx]
 clear hx
 go_enter Tryz.func96,Tryz.ntmps96
 have kq_0:=bxq 0 _ rfl
 have kq_1:=bxq 1 _ rfl
 go_wp2_with (refine wpList_load_mid rfl 46 _ rfl w.heap.size 0 rfl csm _ bxm.range Tryz.underlying46 rfl (by rw [lenm'];exact sizeModel) ?_)
 refine(sL26Best_c _ m _ q _ _ _ z _ ((rModel_ok NB).keep rm (cells_below hB)) ((rQuery_ok NB).keep rq (cells_below hB)) (hz.below rInt_ok hB)).mono ?_
 rintro e w1 ⟨cs6,fp6,rfl,o6,f6,hb1⟩
 replace hB:=hB.trans (hb1.mono hB.size)
 replace bxm:=bxm.below hb1
 replace bxq:=bxq.below hb1
 clear hb1 kq_0 kq_1
 rw [HX.out]at o6 ⊢
 clear f6
 obtain⟨AX,nX,cX,fS,rfl,_,i0,i1,i2,oS⟩:=rPlanEntry_own.1 o6
 clear o6 oS
 cases x with
 | none =>
  go_wp2
  go_ret
  exact⟨rfl,hB.alloc hB.size _⟩
 | some E =>
  go_wp2
  go_ret
  exact⟨rfl,hB.alloc hB.size _⟩
theorem sOptimalCostAt_c (csm:List Value) (m:ModelD) (csq:List Value) (q:QueryD) (Az:Option Addr) (nz cz:Nat) (z:List Int) (w:World) (hm:(rModel NB).rep w csm m) (hq:(rQuery NB).rep w csq q) (hz:RS NB rInt w Az nz cz z) :
  Calls Tryz.prog 36 #[.agg csm.toArray,.agg csq.toArray,.slice Az nz cz] w fun e w'=>e=.returned (.int .i64 (optC m q z))/\Below w.heap.size w w':=by
 have rm:=hm
 have lenm:=(rModel_ok NB).len hm
 clear hm
 have rq:=hq
 obtain⟨AqAtoms,nqAtoms,cqAtoms,rfl,hqVariableCount,hqAtoms⟩:=rQuery_rep.1 hq
 clear hq
 obtain⟨hB,bxm,bxq⟩:=op2 w csm 46 [.int .i64 q.fVariableCount,.slice AqAtoms nqAtoms cqAtoms] 50
 have lenm':csm.length=30:=lenm
 clear lenm
 have hnz:=hz.bound
 obtain⟨wb,hwb⟩:∃ W,W=((w.alloc (.cells csm.toArray 46)).alloc (.cells #[.int .i64 q.fVariableCount,.slice AqAtoms nqAtoms cqAtoms] 50)):=⟨_,rfl⟩
 rw [<- hwb]at hB bxm bxq
 have HSS:Hid (∀ w',Below wb.heap.size wb w'->(w'.rangeAt w.heap.size 0 csm/\w'.cell? ⟨w.heap.size+1,0,none⟩=some (.int .i64 q.fVariableCount)/\w'.cell? ⟨w.heap.size+1,1,none⟩=some (.slice AqAtoms nqAtoms cqAtoms))):=by
  show ∀ w',_->_
  intro w' hb
  exact⟨(bxm.below hb).range,(bxq.below hb) 0 _ rfl,(bxq.below hb) 1 _ rfl⟩
 have hd0:=(Below.refl wb.heap.size wb).drew
 have hX0:=hB.trans (hd0.mono hB.size)
 go_enter Tryz.func36,Tryz.ntmps36
 go_upto_region 1 with fail
 rw [<- hwb]
 clear hwb
 refine hbg HSS.out (Below.refl _ _).drew (fun hH=>?_)
 refine ldm 0 7 (fun w h=>h.1) Tryz.underlying46 (by rw [lenm'];exact sizeModelT) hH ?_;refine tka 1 8 hH ?_;refine tka 2 9 hH ?_;simp only [putS]
 refine rd 3 (some 10) fun K hK=>?_
 clear hH
 go_simp
 refine(sLocationSizes_c _ _ _ z _ (hz.below rInt_ok hX0)).mono ?_
 rintro e u1 ⟨A1,n1,c1,rfl,m1,hb1⟩
 have hC1:Below wb.heap.size wb u1:=hd0.trans (hb1.mono hd0.size)
 go_wp2_with fail
 refine hK.out _ _ (HSS.out _ hC1) (fun hH=>?_)
 clear hK K
 try simp only [putS]
 have hX1:=hB.trans (hC1.mono hB.size)
 refine rd 4 (some 11) fun K hK=>?_
 clear hH
 go_simp
 refine(sOptimalCost_c csm m _ q _ _ _ (locSizes z) _ ((rModel_ok NB).keep rm (cells_below hX1)) ((rQuery_ok NB).keep rq (cells_below hX1)) (m1.rs rInt_ok)).mono ?_
 rintro e u2 ⟨rfl,hb2⟩
 have hC2:Below wb.heap.size wb u2:=hC1.trans (hb2.mono hC1.size)
 go_wp2_with fail
 refine hK.out _ _ (HSS.out _ hC2) (fun hH=>?_)
 clear hK K
 try simp only [putS]
 refine tka 5 6 hH ?_;simp only [putS]
 refine wpAnyH_done (by kernel_rfl) ?_ _
 clear hH
 go_wp2
 go_ret
 exact⟨rfl,hB.trans (hC2.mono hB.size)⟩
end Go.Proofs.YtnlcfkpcmfljeaaGreat
namespace Go.Proofs.YtnlcfkpcmfljeaaGreat
open Go.RowKit
attribute [local go_sem ↓] Go.wp_at_zero Go.wp_at_succ
theorem sortUpV {m:ModelD}{q:QueryD}(z:List Int):admitted m=true->isSizes q (locSizes z)=true->SortUp m (locSizes z):=by
 intro ha hs
 cases h:isLoc z with
 | true=>exact sortUp ha h
 | false =>
  have h2:=(isSizes_parts hs).2.1
  unfold locSizes at h2
  rw [h]at h2
  have:1<=(2:Nat) ^ q.fAtoms.length:=Nat.one_le_two_pow
  simp at h2
  omega
theorem iOptimalCost_c (csm:List Value) (m:ModelD) (csq:List Value) (q:QueryD) (Az:Option Addr) (nz cz:Nat) (z:List Int) (w:World) (hm:(rModel NB).rep w csm m) (hq:(rQuery NB).rep w csq q) (hz:RS NB rInt w Az nz cz z) (hup:admitted m=true->isSizes q z=true->SortUp m z) :
  Calls Tryz.prog 173 #[.agg csm.toArray,.agg csq.toArray,.slice Az nz cz] w fun e w'=>e=.returned (.int .i64 (costV (optV m q z)))/\Below w.heap.size w w':=by
 have rm:=hm
 have lenm:=(rModel_ok NB).len hm
 clear hm
 have rq:=hq
 obtain⟨AqAtoms,nqAtoms,cqAtoms,rfl,hqVariableCount,hqAtoms⟩:=rQuery_rep.1 hq
 clear hq
 obtain⟨hB,bxm,bxq⟩:=op2 w csm 46 [.int .i64 q.fVariableCount,.slice AqAtoms nqAtoms cqAtoms] 50
 have lenm':csm.length=30:=lenm
 clear lenm
 obtain⟨x,hx⟩:∃ x,optV m q z=x:=⟨_,rfl⟩
 have HX:=Lib.hid hx
 rw [hx]
 clear hx
 go_enter Tryz.func173,Tryz.ntmps173
 have kq_0:=bxq 0 _ rfl
 have kq_1:=bxq 1 _ rfl
 go_wp2_with (refine wpList_load_mid rfl 46 _ rfl w.heap.size 0 rfl csm _ bxm.range Tryz.underlying46 rfl (by rw [lenm'];exact sizeModel) ?_)
 refine(iOptimal_c _ m _ q _ _ _ z _ ((rModel_ok NB).keep rm (cells_below hB)) ((rQuery_ok NB).keep rq (cells_below hB)) (hz.below rInt_ok hB) hup).mono ?_
 rintro e w1 ⟨cs6,fp6,rfl,o6,f6,hb1⟩
 replace hB:=hB.trans (hb1.mono hB.size)
 replace bxm:=bxm.below hb1
 replace bxq:=bxq.below hb1
 clear hb1 kq_0 kq_1
 rw [HX.out]at o6 ⊢
 clear f6
 obtain⟨AX,nX,cX,fS,rfl,_,i0,i1,i2,oS⟩:=rPlanEntry_own.1 o6
 clear o6 oS
 cases x with
 | none =>
  go_wp2
  go_ret
  exact⟨rfl,hB.alloc hB.size _⟩
 | some E =>
  go_wp2
  go_ret
  exact⟨rfl,hB.alloc hB.size _⟩
theorem iOptimalCostAt_c (csm:List Value) (m:ModelD) (csq:List Value) (q:QueryD) (Az:Option Addr) (nz cz:Nat) (z:List Int) (w:World) (hm:(rModel NB).rep w csm m) (hq:(rQuery NB).rep w csq q) (hz:RS NB rInt w Az nz cz z) :
  Calls Tryz.prog 110 #[.agg csm.toArray,.agg csq.toArray,.slice Az nz cz] w fun e w'=>e=.returned (.int .i64 (optC m q z))/\Below w.heap.size w w':=by
 have rm:=hm
 have lenm:=(rModel_ok NB).len hm
 clear hm
 have rq:=hq
 obtain⟨AqAtoms,nqAtoms,cqAtoms,rfl,hqVariableCount,hqAtoms⟩:=rQuery_rep.1 hq
 clear hq
 obtain⟨hB,bxm,bxq⟩:=op2 w csm 46 [.int .i64 q.fVariableCount,.slice AqAtoms nqAtoms cqAtoms] 50
 have lenm':csm.length=30:=lenm
 clear lenm
 have hnz:=hz.bound
 obtain⟨wb,hwb⟩:∃ W,W=((w.alloc (.cells csm.toArray 46)).alloc (.cells #[.int .i64 q.fVariableCount,.slice AqAtoms nqAtoms cqAtoms] 50)):=⟨_,rfl⟩
 rw [<- hwb]at hB bxm bxq
 have HSS:Hid (∀ w',Below wb.heap.size wb w'->(w'.rangeAt w.heap.size 0 csm/\w'.cell? ⟨w.heap.size+1,0,none⟩=some (.int .i64 q.fVariableCount)/\w'.cell? ⟨w.heap.size+1,1,none⟩=some (.slice AqAtoms nqAtoms cqAtoms))):=by
  show ∀ w',_->_
  intro w' hb
  exact⟨(bxm.below hb).range,(bxq.below hb) 0 _ rfl,(bxq.below hb) 1 _ rfl⟩
 have hd0:=(Below.refl wb.heap.size wb).drew
 have hX0:=hB.trans (hd0.mono hB.size)
 go_enter Tryz.func110,Tryz.ntmps110
 go_upto_region 1 with fail
 rw [<- hwb]
 clear hwb
 refine hbg HSS.out (Below.refl _ _).drew (fun hH=>?_)
 refine ldm 0 7 (fun w h=>h.1) Tryz.underlying46 (by rw [lenm'];exact sizeModelT) hH ?_;refine tka 1 8 hH ?_;refine tka 2 9 hH ?_;simp only [putS]
 refine rd 3 (some 10) fun K hK=>?_
 clear hH
 go_simp
 refine(iLocationSizes_c _ _ _ z _ (hz.below rInt_ok hX0)).mono ?_
 rintro e u1 ⟨A1,n1,c1,rfl,m1,hb1⟩
 have hC1:Below wb.heap.size wb u1:=hd0.trans (hb1.mono hd0.size)
 go_wp2_with fail
 refine hK.out _ _ (HSS.out _ hC1) (fun hH=>?_)
 clear hK K
 try simp only [putS]
 have hX1:=hB.trans (hC1.mono hB.size)
 refine rd 4 (some 11) fun K hK=>?_
 clear hH
 go_simp
 refine(iOptimalCost_c csm m _ q _ _ _ (locSizes z) _ ((rModel_ok NB).keep rm (cells_below hX1)) ((rQuery_ok NB).keep rq (cells_below hX1)) (m1.rs rInt_ok) (sortUpV z)).mono ?_
 rintro e u2 ⟨rfl,hb2⟩
 have hC2:Below wb.heap.size wb u2:=hC1.trans (hb2.mono hC1.size)
 go_wp2_with fail
 refine hK.out _ _ (HSS.out _ hC2) (fun hH=>?_)
 clear hK K
 try simp only [putS]
 refine tka 5 6 hH ?_;simp only [putS]
 refine wpAnyH_done (by kernel_rfl) ?_ _
 clear hH
 go_wp2
 go_ret
 exact⟨rfl,hB.trans (hC2.mono hB.size)⟩
end Go.Proofs.YtnlcfkpcmfljeaaGreat
namespace Go.Proofs.YtnlcfkpcmfljeaaGreat
open Go.RowKit
def costAt (m:ModelD) (q:QueryD) (ps:List PlanD) (l:List Int) (k:Int):Int:=match ps[k.toNat]? with
 | some p=>planCostAt m q p l
 | none=>0
theorem dropAt {α:Type}{l:List α}{k:Nat}{x:α}(h:l[k]?=some x):l.drop k=x::l.drop (k+1):=by
 obtain⟨hk,rfl⟩:=List.getElem?_eq_some_iff.1 h
 exact List.drop_eq_getElem_cons hk
theorem vbq_parts {q:QueryD}{b:BouquetD}(h:validBouquet q b=true):validQ q=true/\bqHead q b=true/\(∀ p∈b.fPlans,planFull q p=true)/\(∀ (k:Nat) (y:Int),b.fBudgets[k]?=some y->1<=y/\y<=500000000000)/\(∀ l∈b.fContours,∀ p∈l,0<=p/\p<(b.fPlans.length:Int))/\b.fContours.length=b.fBudgets.length:=by
 unfold validBouquet at h
 simp only [Bool.and_eq_true,decide_eq_true_eq]at h
 obtain⟨⟨⟨⟨⟨⟨h1,h2⟩,h3⟩,h4⟩,h5⟩,h6⟩,h7⟩:=h
 refine⟨h1,h2,List.all_eq_true.1 h3,fun k y hy=>budOk_at h4 (lt_of_at hy) hy,fun l hl p hp=>?_,h7⟩
 have h8:=List.all_eq_true.1 h5 l hl
 unfold conOk at h8
 simp only [Bool.and_eq_true,List.all_eq_true,List.mem_range]at h8
 obtain⟨i,hi⟩:=List.getElem?_of_mem hp
 have h9:=h8.2 i (lt_of_at hi)
 simp only [varOk,hi,Bool.and_eq_true]at h9
 have:=inR_t.1 h9.1
 omega
theorem slack_bd {x s:Int}(h1:1<=x/\x<=500000000000) (h2:0<=s/\s<=100):0<=slackOf x s/\slackOf x s<=1000000000000:=by
 have e1:inR x 0 1000000000000=true:=inR_t.2 ⟨by omega,by omega⟩
 have e2:inR s 0 100=true:=inR_t.2 h2
 have h:=slack_rng e1 e2
 have h3:x*(100+s)<=500000000000*200:=Int.mul_le_mul h1.2 (by omega) (by omega) (by omega)
 unfold slackOf;rw [e1,e2];simp only [Bool.and_self,if_true]
 omega
def nxRow (f:Int->Int) (s:Int):List Int->Nat->Option Nat
 | [],_=>none
 | p::l,i=>if f p<=s then some i else nxRow f s l (i+1)
def nxOne (f g:Int->Int) (least:Int) (x:Int × List Int) (i:Nat):Option Nat:=if least<=x.1 then nxRow f (g x.1) (x.2.drop i) i else none
def nxAll (f g:Int->Int) (least:Int):List (Int × List Int)->Nat->Nat->Int × Int × Bool
 | [],_,_=>(0,0,false)
 | x::r,k,i=>match nxOne f g least x i with
  | some t=>((k:Int),(t:Int),true)
  | none=>nxAll f g least r (k+1) 0
theorem nxRow_yes {f:Int->Int}{s p:Int}{l:List Int}{i:Nat}(h:l[i]?=some p) (hp:f p<=s):nxRow f s (l.drop i) i=some i:=by
 rw [dropAt h,nxRow,if_pos hp]
theorem nxRow_no {f:Int->Int}{s p:Int}{l:List Int}{i:Nat}(h:l[i]?=some p) (hp:¬ f p<=s):nxRow f s (l.drop i) i=nxRow f s (l.drop (i+1)) (i+1):=by
 rw [dropAt h,nxRow,if_neg hp]
theorem nxRow_end {f:Int->Int}{s:Int}{l:List Int}{i:Nat}(h:l.length<=i):nxRow f s (l.drop i) i=none:=by
 rw [List.drop_of_length_le h];rfl
theorem nxAll_yes {f g:Int->Int}{least:Int}{z:List (Int × List Int)}{x:Int × List Int}{k i t:Nat}(h:z[k]?=some x) (ht:nxOne f g least x i=some t):nxAll f g least (z.drop k) k i=((k:Int),(t:Int),true):=by
 rw [dropAt h,nxAll,ht]
theorem nxAll_no {f g:Int->Int}{least:Int}{z:List (Int × List Int)}{x:Int × List Int}{k i:Nat}(h:z[k]?=some x) (ht:nxOne f g least x i=none):nxAll f g least (z.drop k) k i=nxAll f g least (z.drop (k+1)) (k+1) 0:=by
 rw [dropAt h,nxAll,ht]
theorem nxAll_end {f g:Int->Int}{least:Int}{z:List (Int × List Int)}{k i:Nat}(h:z.length<=k):nxAll f g least (z.drop k) k i=(0,0,false):=by
 rw [List.drop_of_length_le h];rfl
theorem costAtN {m:ModelD}{q:QueryD}{ps:List PlanD}{l:List Int}{j:Nat}{p:PlanD}(h:ps[j]?=some p):costAt m q ps l (j:Int)=planCostAt m q p l:=by
 unfold costAt;rw [Int.toNat_natCast,h]
def nextR (m:ModelD) (q:QueryD) (b:BouquetD) (l:List Int) (k i:Nat):Int × Int × Bool:=nxAll (costAt m q b.fPlans l) (fun x=>slackOf x b.fSlack) (optC m q l) ((b.fBudgets.zip b.fContours).drop k) k i
def boxOkN (q:QueryD) (b:BoxD):Bool:=validBox b&&decide ((b.fLow.length:Int)=fullMask q+1)
def okBouquet (m:ModelD) (q:QueryD) (b:BouquetD):Bool:=validBouquet q b&&(isConn q (fullMask q)&&admitted m)
def canNext (m:ModelD) (q:QueryD) (b:BouquetD) (x:BoxD) (k i:Int):Bool:=okBouquet m q b&&(boxOkN q x&&(inR k 0 ((b.fContours.length:Int) - 1)&&decide (0<=i)))
def nextRunV (m:ModelD) (q:QueryD) (b:BouquetD) (x:BoxD) (k i:Int):Int × Int × Bool:=if canNext m q b x k i then nextR m q b x.fLow k.toNat i.toNat else (0,0,false)
attribute [local go_sem ↓] Go.wp_at_zero Go.wp_at_succ
theorem sNext_c (csm:List Value) (m:ModelD) (csq:List Value) (q:QueryD) (csb:List Value) (b:BouquetD) (csx:List Value) (x:BoxD) (k:Int) (i:Int) (w:World) (hm:(rModel NB).rep w csm m) (hq:(rQuery NB).rep w csq q) (hb:(rBouquet NB).rep w csb b) (hx:(rBox NB).rep w csx x) (hv:validBouquet q b=true) (hk0:0<=k) (hkn:k<=b.fContours.length) (hi0:0<=i) (hiI:I64 i) :
  Calls Tryz.prog 101 #[.agg csm.toArray,.agg csq.toArray,.agg csb.toArray,.agg csx.toArray,.int .i64 k,.int .i64 i] w fun e w'=>e=.returned (.tuple #[.int .i64 (nextR m q b x.fLow k.toNat i.toNat).1,.int .i64 (nextR m q b x.fLow k.toNat i.toNat).2.1,.bool (nextR m q b x.fLow k.toNat i.toNat).2.2])/\Below w.heap.size w w':=by
 obtain⟨k0,rfl⟩:∃ n:Nat,k=n:=⟨k.toNat,by omega⟩
 obtain⟨i0,rfl⟩:∃ n:Nat,i=n:=⟨i.toNat,by omega⟩
 simp only [Int.toNat_natCast]
 obtain⟨R,hR⟩:∃ R,nextR m q b x.fLow k0 i0=R:=⟨_,rfl⟩
 rw [hR]
 have HRR:=Lib.hid hR
 clear hR
 have rm:=hm
 have lenm:=(rModel_ok NB).len hm
 clear hm
 have rq:=hq
 obtain⟨AqAtoms,nqAtoms,cqAtoms,rfl,hqVariableCount,hqAtoms⟩:=rQuery_rep.1 hq
 clear hq
 have rb:=hb
 obtain⟨AbBoxLow,nbBoxLow,cbBoxLow,AbBoxHigh,nbBoxHigh,cbBoxHigh,AbBudgets,nbBudgets,cbBudgets,AbPlans,nbPlans,cbPlans,AbContours,nbContours,cbContours,rfl,hbVersion,hbRatio,hbSlack,hbBoxLow,hbBoxHigh,hbBudgets,hbPlans,hbContours⟩:=rBouquet_rep.1 hb
 clear hb
 have rx:=hx
 obtain⟨AxLow,nxLow,cxLow,AxHigh,nxHigh,cxHigh,rfl,hxLow,hxHigh⟩:=rBox_rep.1 hx
 clear hx
 obtain⟨hB,bxm,bxq,bxb,bxx⟩:=op4 w csm 46 [.int .i64 q.fVariableCount,.slice AqAtoms nqAtoms cqAtoms] 50 [.int .i64 b.fVersion,.int .i64 b.fRatio,.int .i64 b.fSlack,.slice AbBoxLow nbBoxLow cbBoxLow,.slice AbBoxHigh nbBoxHigh cbBoxHigh,.slice AbBudgets nbBudgets cbBudgets,.slice AbPlans nbPlans cbPlans,.slice AbContours nbContours cbContours] 90 [.slice AxLow nxLow cxLow,.slice AxHigh nxHigh cxHigh] 36
 have lenm':csm.length=30:=lenm
 clear lenm
 obtain⟨_,hh,_,hbu,hco,hle⟩:=vbq_parts hv
 have HSL:Hid (0<=b.fSlack/\b.fSlack<=100):=Lib.hid (bqHead_parts hh).2.1
 have HBU:=Lib.hid hbu
 have HCO:=Lib.hid hco
 have HCL:=Lib.hid hbContours.len
 have HPL:=Lib.hid hbPlans.len
 have hnC:=hbContours.bound
 have hnP:=hbPlans.bound
 have HBL:Hid (nbBudgets=nbContours):=by show _=_;have:=hbBudgets.len;have:=HCL.out;omega
 have HZL:Hid ((b.fBudgets.zip b.fContours).length=nbContours):=by show _=_;rw [List.length_zip];have:=hbBudgets.len;have:=HCL.out;omega
 have hk1:k0<=nbContours:=by have:=HCL.out;omega
 have HI0:=Lib.hid hiI
 clear hv hh hbu hco hle hkn hk0 hi0 hiI
 go_enter Tryz.func101,Tryz.ntmps101
 go_upto_region 1 with fail
 obtain⟨wb,hwb⟩:∃ W,W=((((w.alloc (.cells csm.toArray 46)).alloc (.cells #[.int .i64 q.fVariableCount,.slice AqAtoms nqAtoms cqAtoms] 50)).alloc (.cells #[.int .i64 b.fVersion,.int .i64 b.fRatio,.int .i64 b.fSlack,.slice AbBoxLow nbBoxLow cbBoxLow,.slice AbBoxHigh nbBoxHigh cbBoxHigh,.slice AbBudgets nbBudgets cbBudgets,.slice AbPlans nbPlans cbPlans,.slice AbContours nbContours cbContours] 90)).alloc (.cells #[.slice AxLow nxLow cxLow,.slice AxHigh nxHigh cxHigh] 36)):=⟨_,rfl⟩
 rw [<- hwb]at hB bxm bxq bxb bxx ⊢
 clear hwb
 obtain⟨op,hop⟩:∃ v,optC m q x.fLow=v:=⟨_,rfl⟩
 have HOP:=Lib.hid hop;clear hop
 have kq_0:=bxq 0 _ rfl
 have kq_1:=bxq 1 _ rfl
 have kx_0:=bxx 0 _ rfl
 go_wp2_with (refine wpList_load_mid rfl 46 _ rfl w.heap.size 0 rfl csm _ bxm.range Tryz.underlying46 rfl (by rw [lenm'];exact sizeModel) ?_)
 refine(sOptimalCostAt_c _ m _ q _ _ _ x.fLow _ ((rModel_ok NB).keep rm (cells_below hB)) ((rQuery_ok NB).keep rq (cells_below hB)) (hxLow.below rInt_ok hB)).mono ?_
 rintro e w1 ⟨rfl,hb1⟩
 replace hB:=hB.trans (hb1.mono hB.size)
 replace bxm:=bxm.below hb1
 replace bxq:=bxq.below hb1
 replace bxb:=bxb.below hb1
 replace bxx:=bxx.below hb1
 clear hb1 kq_0 kq_1 kx_0
 rw [HOP.out]
 rename World=>wc
 have hBC:=hB
 have bmC:=bxm
 have bqC:=bxq
 have bbC:=bxb
 have bxC:=bxx
 clear bxm bxq bxb bxx hB
 have HR0:Hid (nxAll (costAt m q b.fPlans x.fLow) (fun x=>slackOf x b.fSlack) op ((b.fBudgets.zip b.fContours).drop k0) k0 i0=R):=by show _=_;rw [<- HRR.out];unfold nextR;rw [HOP.out]
 clear HRR
 have HEND:Hid (∀ w',Below wc.heap.size wc w'->(w'.cell? ⟨w.heap.size+1+1,2,none⟩=some (.int .i64 b.fSlack)/\w'.cell? ⟨w.heap.size+1+1,5,none⟩=some (.slice AbBudgets nbBudgets cbBudgets)/\w'.cell? ⟨w.heap.size+1+1,7,none⟩=some (.slice AbContours nbContours cbContours))):=by
  show ∀ w',_->_
  exact fun w' hz=>⟨(bbC.below hz) 2 _ rfl,(bbC.below hz) 5 _ rfl,(bbC.below hz) 7 _ rfl⟩
 go_wp2_with fail
 go_loopw [4,5] (fun kv iv wr=>∃ (k i:Nat),k<=nbContours/\I64 (i:Int)/\kv=.int .i64 (k:Int)/\iv=.int .i64 (i:Int)/\nxAll (costAt m q b.fPlans x.fLow) (fun x=>slackOf x b.fSlack) op ((b.fBudgets.zip b.fContours).drop k) k i=R/\Below wc.heap.size wc wr) (fun kv _ _=>nbContours - (intOf kv).toNat)
 case atStart=>exact⟨k0,i0,hk1,HI0.out,rfl,rfl,HR0.out,Below.refl _ _⟩
 case round =>
  clear hk1 HI0 HR0
  obtain⟨k,i,hk,hiI,rfl,rfl,hrel,hE⟩:=hrel
  have HREL:=Lib.hid hrel;clear hrel
  have HII:=Lib.hid hiI;clear hiI
  by_cases hlt:k<nbContours
  ·have hkC:k<nbContours:=hlt
   have hkB:k<nbBudgets:=by have:=HBL.out;omega
   have hkCI:(k:Int)<nbContours:=by omega
   have hkBI:(k:Int)<nbBudgets:=by omega
   obtain⟨bB,oB,y,rfl,hcx,hIx,hx⟩:=hbBudgets.ati hkB
   obtain⟨bC,oC,row,Ar,nr,cr,rfl,hcr,hRr,hr⟩:=hbContours.row hkC
   have HX:=Lib.hid hx.out;clear hx
   have HR:=Lib.hid hr.out;clear hr
   have HZ:Hid ((b.fBudgets.zip b.fContours)[k]?=some (y,row)):=by show _=_;exact List.getElem?_zip_eq_some.2 ⟨HX.out,HR.out⟩
   obtain⟨s,hs⟩:∃ s,slackOf y b.fSlack=s:=⟨_,rfl⟩
   have hsb:=slack_bd (HBU.out k y HX.out) HSL.out
   rw [hs]at hsb
   have HS:=Lib.hid hs;clear hs
   have HRL:=Lib.hid hRr.len
   have hnr:=hRr.bound
   have hRp:Hid (∀ p∈row,0<=p/\p<(nbPlans:Int)):=by show ∀ p∈row,_;intro p hp;have:=HCO.out row (mem_of_at HR.out) p hp;rw [HPL.out]at this;exact this
   have K1:Hid (∀ W,Calls Tryz.prog 170 #[.int .i64 y,.int .i64 b.fSlack] W fun e w'=>e=.returned (.int .i64 s)/\w'=W):=by
    show ∀ W,_
    exact fun W=>sSlackBudget_w HS.out W
   have HCC:Hid (∀ w',Below wc.heap.size wc w'->(w'.rangeAt w.heap.size 0 csm/\w'.cell? ⟨w.heap.size+1,0,none⟩=some (.int .i64 q.fVariableCount)/\w'.cell? ⟨w.heap.size+1,1,none⟩=some (.slice AqAtoms nqAtoms cqAtoms)/\w'.cell? ⟨w.heap.size+1+1,5,none⟩=some (.slice (some ⟨bB,oB,none⟩) nbBudgets cbBudgets)/\w'.cell? ⟨w.heap.size+1+1,2,none⟩=some (.int .i64 b.fSlack)/\w'.cell? ⟨bB,oB+k,none⟩=some (.int .i64 y)/\w'.cell? ⟨w.heap.size+1+1,7,none⟩=some (.slice (some ⟨bC,oC,none⟩) nbContours cbContours)/\w'.cell? ⟨bC,oC+k,none⟩=some (.slice Ar nr cr)/\w'.cell? ⟨w.heap.size+1+1,6,none⟩=some (.slice AbPlans nbPlans cbPlans)/\w'.cell? ⟨w.heap.size+1+1+1,0,none⟩=some (.slice AxLow nxLow cxLow))):=by
    show ∀ w',_->_
    intro w' hz
    have hZ:=hBC.trans (hz.mono hBC.size)
    exact⟨(bmC.below hz).range,(bqC.below hz) 0 _ rfl,(bqC.below hz) 1 _ rfl,(bbC.below hz) 5 _ rfl,(bbC.below hz) 2 _ rfl,cells_below hZ _ _ hcx,(bbC.below hz) 7 _ rfl,cells_below hZ _ _ hcr,(bbC.below hz) 6 _ rfl,(bxC.below hz) 0 _ rfl⟩
   clear hcx hcr
   have hHead:=hE
   have ⟨a0,a1,a2,a3,a4,a5,a6,a7,a8,a9⟩:=HCC.out _ hE
   by_cases hop:op<=y
   ·have hopd:decide (op<=y)=true:=decide_eq_true hop
    have HO1:Hid (nxOne (costAt m q b.fPlans x.fLow) (fun x=>slackOf x b.fSlack) op (y,row) i=nxRow (costAt m q b.fPlans x.fLow) s (row.drop i) i):=by show _=_;unfold nxOne;rw [if_pos hop];show nxRow _ (slackOf y b.fSlack) _ _=_;rw [HS.out]
    clear hop
    go_wp2
    clear a0 a1 a2 a3 a4 a5 a6 a7 a8 a9
    rename World=>wq
    go_loopw [5] (fun iv wi=>∃ t:Nat,I64 (t:Int)/\iv=.int .i64 (t:Int)/\nxRow (costAt m q b.fPlans x.fLow) s (row.drop t) t=nxRow (costAt m q b.fPlans x.fLow) s (row.drop i) i/\Below wc.heap.size wc wi) (fun iv _=>nr - (intOf iv).toNat)
    case atStart=>exact⟨i,HII.out,rfl,rfl,hHead⟩
    case round =>
     clear hE hHead HII
     obtain⟨t,htI,rfl,hrow,hE⟩:=hrel
     have HROW:=Lib.hid hrow;clear hrow
     have HTI:=Lib.hid htI;clear htI
     have ⟨a0,a1,a2,a3,a4,a5,a6,a7,a8,a9⟩:=HCC.out _ hE
     by_cases hlt2:t<nr
     ·have hltI:(t:Int)<nr:=by omega
      obtain⟨bR,oR,pn,rfl,hcp,hIp,hp⟩:=hRr.ati hlt2
      have HP:=Lib.hid hp.out;clear hp
      have hpb:=hRp.out pn (mem_of_at HP.out)
      obtain⟨j,rfl⟩:∃ j:Nat,pn=j:=⟨pn.toNat,by omega⟩
      have hj:j<nbPlans:=by omega
      have hjI:(j:Int)<(nbPlans:Int):=by omega
      obtain⟨bP,oP,PL,AP,nP,cP,rfl,hcP,hRP,hPX⟩:=hbPlans.planP hj
      obtain⟨c,hc⟩:∃ c,costAt m q b.fPlans x.fLow (j:Int)=c:=⟨_,rfl⟩
      have HC:=Lib.hid hc
      have hcb:-28000000000<=c/\c<=28000000000:=by rw [<- hc,costAtN hPX.out];exact planCost_bd _ _ _ _
      have K2:Hid (∀ W,Below wc.heap.size wc W->Calls Tryz.prog 37 #[.agg csm.toArray,.agg #[.int .i64 q.fVariableCount,.slice AqAtoms nqAtoms cqAtoms],.agg #[.slice AP nP cP],.slice AxLow nxLow cxLow] W fun e w'=>e=.returned (.int .i64 c)/\Below W.heap.size W w'):=by
       show ∀ W,_->_
       intro W hW
       have hX:=hBC.trans (hW.mono hBC.size)
       rw [<- hc,costAtN hPX.out]
       exact sPlanCostAt_c _ m _ q _ PL _ _ _ x.fLow W ((rModel_ok NB).keep rm (cells_below hX)) ((rQuery_ok NB).keep rq (cells_below hX)) (rPlan_rep.2 ⟨_,_,_,rfl,hRP.below (rPlanStep_ok NB) hX⟩) (hxLow.below rInt_ok hX)
      clear hc hPX
      have HC2:Hid (∀ w',Below wc.heap.size wc w'->(w'.cell? ⟨bR,oR+t,none⟩=some (.int .i64 (j:Int))/\w'.cell? ⟨bP,oP+j,none⟩=some (.slice AP nP cP))):=by
       show ∀ w',_->_
       intro w' hz
       have hZ:=hBC.trans (hz.mono hBC.size)
       exact⟨cells_below hZ _ _ hcp,cells_below hZ _ _ hcP⟩
      clear hcp hcP
      have HSS:Hid (∀ w',Below wr.heap.size wr w'->(w'.rangeAt w.heap.size 0 csm/\w'.cell? ⟨w.heap.size+1,0,none⟩=some (.int .i64 q.fVariableCount)/\w'.cell? ⟨w.heap.size+1,1,none⟩=some (.slice AqAtoms nqAtoms cqAtoms)/\w'.cell? ⟨w.heap.size+1+1,6,none⟩=some (.slice (some ⟨bP,oP,none⟩) nbPlans cbPlans)/\w'.cell? ⟨bP,oP+j,none⟩=some (.slice AP nP cP)/\w'.cell? ⟨w.heap.size+1+1,7,none⟩=some (.slice (some ⟨bC,oC,none⟩) nbContours cbContours)/\w'.cell? ⟨bC,oC+k,none⟩=some (.slice (some ⟨bR,oR,none⟩) nr cr)/\w'.cell? ⟨bR,oR+t,none⟩=some (.int .i64 (j:Int))/\w'.cell? ⟨w.heap.size+1+1+1,0,none⟩=some (.slice AxLow nxLow cxLow))):=by
       show ∀ w',_->_
       intro w' hb
       have hz:=hE.trans (hb.mono hE.size)
       obtain⟨a0,a1,a2,a3,a4,a5,a6,a7,a8,a9⟩:=HCC.out _ hz
       obtain⟨d0,d1⟩:=HC2.out _ hz
       exact⟨a0,a1,a2,a8,d1,a6,a7,d0,a9⟩
      have hd0:=hE.trans ((Below.refl wr.heap.size wr).drew.mono hE.size)
      have K1d:=K1
      clear a0 a1 a2 a3 a4 a5 a6 a7 a8 a9
      have ⟨a0,a1,a2,a3,a4,a5,a6,a7,a8,a9⟩:=HCC.out _ hE
      go_wp2
      clear a0 a1 a2 a3 a4 a5 a6 a7 a8 a9
      refine hbg HSS.out (Below.refl _ _).drew (fun hH=>?_)
      refine ldm 0 42 (fun w h=>h.1) Tryz.underlying46 (by rw [lenm'];exact sizeModelT) hH ?_;refine tka 1 43 hH ?_;refine tka 2 44 hH ?_;refine tka 3 45 hH ?_;simp only [putS]
      refine tka 4 46 hH ?_;refine tka 5 47 hH ?_;refine tka 6 48 hH ?_;refine tka 7 49 hH ?_;simp only [putS]
      refine tka 8 50 hH ?_;refine tka 9 51 hH ?_;refine tka 10 52 hH ?_;refine tka 11 53 hH ?_;simp only [putS]
      refine tka 12 54 hH ?_;refine tka 13 55 hH ?_;refine tka 14 56 hH ?_;refine tka 15 57 hH ?_;simp only [putS]
      refine rd 16 (some 58) fun K hK=>?_
      clear hH
      go_simp
      refine(K2.out _ hd0).mono ?_
      rintro e w2 ⟨rfl,hb2⟩
      have hC:Below wr.heap.size wr w2:=((Below.refl wr.heap.size wr).drew.trans (hb2.mono (by simp)))
      go_wp2_with fail
      refine hK.out _ _ (HSS.out _ hC) (fun hH=>?_)
      clear hK K
      try simp only [putS]
      refine tka 17 16 hH ?_;simp only [putS]
      refine wpAnyH_done (by kernel_rfl) ?_ _
      clear hH
      have hE4:=hE.trans (hC.mono hE.size)
      clear HSS K2 HC2 hd0 hb2
      have hE5:=hE4.trans ((Below.refl w2.heap.size w2).drew.mono hE4.size)
      have HSS:Hid (∀ w',Below w2.heap.size w2 w'->(w'.cell? ⟨w.heap.size+1+1,5,none⟩=some (.slice (some ⟨bB,oB,none⟩) nbBudgets cbBudgets)/\w'.cell? ⟨w.heap.size+1+1,2,none⟩=some (.int .i64 b.fSlack)/\w'.cell? ⟨bB,oB+k,none⟩=some (.int .i64 y))):=by
       show ∀ w',_->_
       intro w' hb
       have hz:=hE4.trans (hb.mono hE4.size)
       obtain⟨a0,a1,a2,a3,a4,a5,_⟩:=HCC.out _ hz
       exact⟨a3,a4,a5⟩
      by_cases hcs:c<=s
      ·have hcsd:decide (c<=s)=true:=decide_eq_true hcs
       have HY:Hid (R=((k:Int),(t:Int),true)):=by
        show _=_
        have h1:=nxRow_yes (f:=costAt m q b.fPlans x.fLow) (s:=s) HP.out (by rw [HC.out];exact hcs)
        rw [HROW.out,<- HO1.out]at h1
        rw [<- HREL.out]
        exact nxAll_yes HZ.out h1
       clear hcs
       go_wp2_with fail
       refine hbg HSS.out (Below.refl _ _).drew (fun hH=>?_)
       refine tka 0 59 hH ?_;refine tka 1 60 hH ?_;refine tka 2 61 hH ?_;refine tka 3 62 hH ?_;simp only [putS]
       refine tka 4 63 hH ?_;refine tka 5 64 hH ?_;refine tka 6 65 hH ?_;refine tka 7 66 hH ?_;simp only [putS]
       refine rd 8 (some 67) fun K hK=>?_
       clear hH
       go_simp
       refine(K1.out _).mono ?_
       rintro e w' ⟨rfl,rfl⟩
       go_wp2_with fail
       refine hK.out _ _ (HSS.out _ (Below.refl w2.heap.size w2).drew) (fun hH=>?_)
       clear hK K
       try simp only [putS]
       refine tka 9 68 hH ?_;simp only [putS]
       refine wpAnyH_done (by kernel_rfl) ?_ _
       clear hH
       go_wp2
       go_ret3
       exact⟨by rw [HY.out];rfl,hBC.trans (hE5.mono hBC.size)⟩
      ·have hcsd:decide (c<=s)=false:=decide_eq_false hcs
       have HY:Hid (nxRow (costAt m q b.fPlans x.fLow) s (row.drop (t+1)) (t+1)=nxRow (costAt m q b.fPlans x.fLow) s (row.drop i) i):=by
        show _=_
        rw [<- HROW.out]
        exact(nxRow_no HP.out (by rw [HC.out];exact hcs)).symm
       clear hcs
       go_wp2_with fail
       refine hbg HSS.out (Below.refl _ _).drew (fun hH=>?_)
       refine tka 0 59 hH ?_;refine tka 1 60 hH ?_;refine tka 2 61 hH ?_;refine tka 3 62 hH ?_;simp only [putS]
       refine tka 4 63 hH ?_;refine tka 5 64 hH ?_;refine tka 6 65 hH ?_;refine tka 7 66 hH ?_;simp only [putS]
       refine rd 8 (some 67) fun K hK=>?_
       clear hH
       go_simp
       refine(K1.out _).mono ?_
       rintro e w' ⟨rfl,rfl⟩
       go_wp2_with fail
       refine hK.out _ _ (HSS.out _ (Below.refl w2.heap.size w2).drew) (fun hH=>?_)
       clear hK K
       try simp only [putS]
       refine tka 9 68 hH ?_;simp only [putS]
       refine wpAnyH_done (by kernel_rfl) ?_ _
       clear hH
       go_wp2
       go_roundw
       case rel=>exact⟨t+1,⟨by omega,by omega⟩,by go_num,HY.out,hE5⟩
       case measure=>simp [intOf];omega
     ·have hltI:¬ (t:Int)<nr:=by omega
      have HN:Hid (nxAll (costAt m q b.fPlans x.fLow) (fun x=>slackOf x b.fSlack) op ((b.fBudgets.zip b.fContours).drop (k+1)) (k+1) 0=R):=by show _=_;rw [<- HREL.out];exact(nxAll_no HZ.out (by rw [HO1.out,<- HROW.out];exact nxRow_end (by have:=HRL.out;omega))).symm
      go_wp2
      go_roundw
      case rel=>exact⟨k+1,0,by omega,I64_zero,by go_num,rfl,HN.out,hE⟩
      case measure=>simp [intOf];omega
   ·have hopd:decide (op<=y)=false:=decide_eq_false hop
    have HN:Hid (nxAll (costAt m q b.fPlans x.fLow) (fun x=>slackOf x b.fSlack) op ((b.fBudgets.zip b.fContours).drop (k+1)) (k+1) 0=R):=by show _=_;rw [<- HREL.out];exact(nxAll_no HZ.out (by show(if op<=y then _ else none)=none;rw [if_neg hop])).symm
    clear hop
    go_wp2
    go_roundw
    case rel=>exact⟨k+1,0,by omega,I64_zero,by go_num,rfl,HN.out,hE⟩
    case measure=>simp [intOf];omega
  ·have HN:Hid (R=(0,0,false)):=by show _=_;rw [<- HREL.out];exact nxAll_end (by have:=HZL.out;omega)
   have ⟨a0,a5,a7⟩:=HEND.out _ hE
   have hlb:¬ (k:Int)<nbBudgets:=by have:=HBL.out;omega
   have hlc:¬ (k:Int)<nbContours:=by omega
   go_wp2
   go_ret3
   exact⟨by rw [HN.out];rfl,hBC.trans (hE.mono hBC.size)⟩
end Go.Proofs.YtnlcfkpcmfljeaaGreat
namespace Go.Proofs.YtnlcfkpcmfljeaaGreat
open Go.RowKit
attribute [local go_sem ↓] Go.wp_at_zero Go.wp_at_succ
theorem iNext_c (csm:List Value) (m:ModelD) (csq:List Value) (q:QueryD) (csb:List Value) (b:BouquetD) (csx:List Value) (x:BoxD) (k:Int) (i:Int) (w:World) (hm:(rModel NB).rep w csm m) (hq:(rQuery NB).rep w csq q) (hb:(rBouquet NB).rep w csb b) (hx:(rBox NB).rep w csx x) (hv:validBouquet q b=true) (hk0:0<=k) (hkn:k<=b.fContours.length) (hi0:0<=i) (hiI:I64 i) :
  Calls Tryz.prog 106 #[.agg csm.toArray,.agg csq.toArray,.agg csb.toArray,.agg csx.toArray,.int .i64 k,.int .i64 i] w fun e w'=>e=.returned (.tuple #[.int .i64 (nextR m q b x.fLow k.toNat i.toNat).1,.int .i64 (nextR m q b x.fLow k.toNat i.toNat).2.1,.bool (nextR m q b x.fLow k.toNat i.toNat).2.2])/\Below w.heap.size w w':=by
 obtain⟨k0,rfl⟩:∃ n:Nat,k=n:=⟨k.toNat,by omega⟩
 obtain⟨i0,rfl⟩:∃ n:Nat,i=n:=⟨i.toNat,by omega⟩
 simp only [Int.toNat_natCast]
 obtain⟨R,hR⟩:∃ R,nextR m q b x.fLow k0 i0=R:=⟨_,rfl⟩
 rw [hR]
 have HRR:=Lib.hid hR
 clear hR
 have rm:=hm
 have lenm:=(rModel_ok NB).len hm
 clear hm
 have rq:=hq
 obtain⟨AqAtoms,nqAtoms,cqAtoms,rfl,hqVariableCount,hqAtoms⟩:=rQuery_rep.1 hq
 clear hq
 have rb:=hb
 obtain⟨AbBoxLow,nbBoxLow,cbBoxLow,AbBoxHigh,nbBoxHigh,cbBoxHigh,AbBudgets,nbBudgets,cbBudgets,AbPlans,nbPlans,cbPlans,AbContours,nbContours,cbContours,rfl,hbVersion,hbRatio,hbSlack,hbBoxLow,hbBoxHigh,hbBudgets,hbPlans,hbContours⟩:=rBouquet_rep.1 hb
 clear hb
 have rx:=hx
 obtain⟨AxLow,nxLow,cxLow,AxHigh,nxHigh,cxHigh,rfl,hxLow,hxHigh⟩:=rBox_rep.1 hx
 clear hx
 obtain⟨hB,bxm,bxq,bxb,bxx⟩:=op4 w csm 46 [.int .i64 q.fVariableCount,.slice AqAtoms nqAtoms cqAtoms] 50 [.int .i64 b.fVersion,.int .i64 b.fRatio,.int .i64 b.fSlack,.slice AbBoxLow nbBoxLow cbBoxLow,.slice AbBoxHigh nbBoxHigh cbBoxHigh,.slice AbBudgets nbBudgets cbBudgets,.slice AbPlans nbPlans cbPlans,.slice AbContours nbContours cbContours] 90 [.slice AxLow nxLow cxLow,.slice AxHigh nxHigh cxHigh] 36
 have lenm':csm.length=30:=lenm
 clear lenm
 obtain⟨_,hh,_,hbu,hco,hle⟩:=vbq_parts hv
 have HSL:Hid (0<=b.fSlack/\b.fSlack<=100):=Lib.hid (bqHead_parts hh).2.1
 have HBU:=Lib.hid hbu
 have HCO:=Lib.hid hco
 have HCL:=Lib.hid hbContours.len
 have HPL:=Lib.hid hbPlans.len
 have hnC:=hbContours.bound
 have hnP:=hbPlans.bound
 have HBL:Hid (nbBudgets=nbContours):=by show _=_;have:=hbBudgets.len;have:=HCL.out;omega
 have HZL:Hid ((b.fBudgets.zip b.fContours).length=nbContours):=by show _=_;rw [List.length_zip];have:=hbBudgets.len;have:=HCL.out;omega
 have hk1:k0<=nbContours:=by have:=HCL.out;omega
 have HI0:=Lib.hid hiI
 clear hv hh hbu hco hle hkn hk0 hi0 hiI
 go_enter Tryz.func106,Tryz.ntmps106
 go_upto_region 1 with fail
 obtain⟨wb,hwb⟩:∃ W,W=((((w.alloc (.cells csm.toArray 46)).alloc (.cells #[.int .i64 q.fVariableCount,.slice AqAtoms nqAtoms cqAtoms] 50)).alloc (.cells #[.int .i64 b.fVersion,.int .i64 b.fRatio,.int .i64 b.fSlack,.slice AbBoxLow nbBoxLow cbBoxLow,.slice AbBoxHigh nbBoxHigh cbBoxHigh,.slice AbBudgets nbBudgets cbBudgets,.slice AbPlans nbPlans cbPlans,.slice AbContours nbContours cbContours] 90)).alloc (.cells #[.slice AxLow nxLow cxLow,.slice AxHigh nxHigh cxHigh] 36)):=⟨_,rfl⟩
 rw [<- hwb]at hB bxm bxq bxb bxx ⊢
 clear hwb
 obtain⟨op,hop⟩:∃ v,optC m q x.fLow=v:=⟨_,rfl⟩
 have HOP:=Lib.hid hop;clear hop
 have kq_0:=bxq 0 _ rfl
 have kq_1:=bxq 1 _ rfl
 have kx_0:=bxx 0 _ rfl
 go_wp2_with (refine wpList_load_mid rfl 46 _ rfl w.heap.size 0 rfl csm _ bxm.range Tryz.underlying46 rfl (by rw [lenm'];exact sizeModel) ?_)
 refine(iOptimalCostAt_c _ m _ q _ _ _ x.fLow _ ((rModel_ok NB).keep rm (cells_below hB)) ((rQuery_ok NB).keep rq (cells_below hB)) (hxLow.below rInt_ok hB)).mono ?_
 rintro e w1 ⟨rfl,hb1⟩
 replace hB:=hB.trans (hb1.mono hB.size)
 replace bxm:=bxm.below hb1
 replace bxq:=bxq.below hb1
 replace bxb:=bxb.below hb1
 replace bxx:=bxx.below hb1
 clear hb1 kq_0 kq_1 kx_0
 rw [HOP.out]
 rename World=>wc
 have hBC:=hB
 have bmC:=bxm
 have bqC:=bxq
 have bbC:=bxb
 have bxC:=bxx
 clear bxm bxq bxb bxx hB
 have HR0:Hid (nxAll (costAt m q b.fPlans x.fLow) (fun x=>slackOf x b.fSlack) op ((b.fBudgets.zip b.fContours).drop k0) k0 i0=R):=by show _=_;rw [<- HRR.out];unfold nextR;rw [HOP.out]
 clear HRR
 have HEND:Hid (∀ w',Below wc.heap.size wc w'->(w'.cell? ⟨w.heap.size+1+1,2,none⟩=some (.int .i64 b.fSlack)/\w'.cell? ⟨w.heap.size+1+1,5,none⟩=some (.slice AbBudgets nbBudgets cbBudgets)/\w'.cell? ⟨w.heap.size+1+1,7,none⟩=some (.slice AbContours nbContours cbContours))):=by
  show ∀ w',_->_
  exact fun w' hz=>⟨(bbC.below hz) 2 _ rfl,(bbC.below hz) 5 _ rfl,(bbC.below hz) 7 _ rfl⟩
 go_wp2_with fail
 go_loopw [5,16] (fun iv kv wr=>∃ (k i:Nat),k<=nbContours/\I64 (i:Int)/\kv=.int .i64 (k:Int)/\iv=.int .i64 (i:Int)/\nxAll (costAt m q b.fPlans x.fLow) (fun x=>slackOf x b.fSlack) op ((b.fBudgets.zip b.fContours).drop k) k i=R/\Below wc.heap.size wc wr) (fun _ kv _=>nbContours - (intOf kv).toNat)
 case atStart=>exact⟨k0,i0,hk1,HI0.out,rfl,rfl,HR0.out,Below.refl _ _⟩
 case round =>
  clear hk1 HI0 HR0
  obtain⟨k,i,hk,hiI,rfl,rfl,hrel,hE⟩:=hrel
  have HREL:=Lib.hid hrel;clear hrel
  have HII:=Lib.hid hiI;clear hiI
  by_cases hlt:k<nbContours
  ·have hkC:k<nbContours:=hlt
   have hkB:k<nbBudgets:=by have:=HBL.out;omega
   have hkCI:(k:Int)<nbContours:=by omega
   have hkBI:(k:Int)<nbBudgets:=by omega
   obtain⟨bB,oB,y,rfl,hcx,hIx,hx⟩:=hbBudgets.ati hkB
   obtain⟨bC,oC,row,Ar,nr,cr,rfl,hcr,hRr,hr⟩:=hbContours.row hkC
   have HX:=Lib.hid hx.out;clear hx
   have HR:=Lib.hid hr.out;clear hr
   have HZ:Hid ((b.fBudgets.zip b.fContours)[k]?=some (y,row)):=by show _=_;exact List.getElem?_zip_eq_some.2 ⟨HX.out,HR.out⟩
   obtain⟨s,hs⟩:∃ s,slackOf y b.fSlack=s:=⟨_,rfl⟩
   have hsb:=slack_bd (HBU.out k y HX.out) HSL.out
   rw [hs]at hsb
   have HS:=Lib.hid hs;clear hs
   have HRL:=Lib.hid hRr.len
   have hnr:=hRr.bound
   have hRp:Hid (∀ p∈row,0<=p/\p<(nbPlans:Int)):=by show ∀ p∈row,_;intro p hp;have:=HCO.out row (mem_of_at HR.out) p hp;rw [HPL.out]at this;exact this
   have K1:Hid (∀ W,Calls Tryz.prog 112 #[.int .i64 y,.int .i64 b.fSlack] W fun e w'=>e=.returned (.int .i64 s)/\w'=W):=by
    show ∀ W,_
    exact fun W=>iSlackBudget_w HS.out W
   have HCC:Hid (∀ w',Below wc.heap.size wc w'->(w'.rangeAt w.heap.size 0 csm/\w'.cell? ⟨w.heap.size+1,0,none⟩=some (.int .i64 q.fVariableCount)/\w'.cell? ⟨w.heap.size+1,1,none⟩=some (.slice AqAtoms nqAtoms cqAtoms)/\w'.cell? ⟨w.heap.size+1+1,5,none⟩=some (.slice (some ⟨bB,oB,none⟩) nbBudgets cbBudgets)/\w'.cell? ⟨w.heap.size+1+1,2,none⟩=some (.int .i64 b.fSlack)/\w'.cell? ⟨bB,oB+k,none⟩=some (.int .i64 y)/\w'.cell? ⟨w.heap.size+1+1,7,none⟩=some (.slice (some ⟨bC,oC,none⟩) nbContours cbContours)/\w'.cell? ⟨bC,oC+k,none⟩=some (.slice Ar nr cr)/\w'.cell? ⟨w.heap.size+1+1,6,none⟩=some (.slice AbPlans nbPlans cbPlans)/\w'.cell? ⟨w.heap.size+1+1+1,0,none⟩=some (.slice AxLow nxLow cxLow))):=by
    show ∀ w',_->_
    intro w' hz
    have hZ:=hBC.trans (hz.mono hBC.size)
    exact⟨(bmC.below hz).range,(bqC.below hz) 0 _ rfl,(bqC.below hz) 1 _ rfl,(bbC.below hz) 5 _ rfl,(bbC.below hz) 2 _ rfl,cells_below hZ _ _ hcx,(bbC.below hz) 7 _ rfl,cells_below hZ _ _ hcr,(bbC.below hz) 6 _ rfl,(bxC.below hz) 0 _ rfl⟩
   clear hcx hcr
   have ⟨a0,a1,a2,a3,a4,a5,a6,a7,a8,a9⟩:=HCC.out _ hE
   have HSS:Hid (∀ w',Below wr.heap.size wr w'->(w'.cell? ⟨w.heap.size+1+1,5,none⟩=some (.slice (some ⟨bB,oB,none⟩) nbBudgets cbBudgets)/\w'.cell? ⟨w.heap.size+1+1,2,none⟩=some (.int .i64 b.fSlack)/\w'.cell? ⟨bB,oB+k,none⟩=some (.int .i64 y))):=by
    show ∀ w',_->_
    intro w' hb
    have hz:=hE.trans (hb.mono hE.size)
    obtain⟨a0,a1,a2,a3,a4,a5,_⟩:=HCC.out _ hz
    exact⟨a3,a4,a5⟩
   go_wp2
   clear a0 a1 a2 a3 a4 a5 a6 a7 a8 a9
   refine hbg HSS.out (Below.refl _ _).drew (fun hH=>?_)
   refine tka 0 32 hH ?_;refine tka 1 33 hH ?_;refine tka 2 34 hH ?_;refine tka 3 35 hH ?_;simp only [putS]
   refine tka 4 36 hH ?_;refine tka 5 37 hH ?_;refine tka 6 38 hH ?_;simp only [putS]
   refine rd 7 (some 39) fun K hK=>?_
   clear hH
   go_simp
   refine(K1.out _).mono ?_
   rintro e w' ⟨rfl,rfl⟩
   go_wp2_with fail
   refine hK.out _ _ (HSS.out _ (Below.refl wr.heap.size wr).drew) (fun hH=>?_)
   clear hK K
   try simp only [putS]
   refine tka 8 17 hH ?_;simp only [putS]
   refine wpAnyH_done (by kernel_rfl) ?_ _
   clear hH
   have hE1:=hE.trans ((Below.refl wr.heap.size wr).drew.mono hE.size)
   clear HSS K1
   have hopD:Hid (∀ v,nxOne (costAt m q b.fPlans x.fLow) (fun x=>slackOf x b.fSlack) op (y,row) v=if op<=y then nxRow (costAt m q b.fPlans x.fLow) s (row.drop v) v else none):=by show ∀ v,_=_;intro v;unfold nxOne;show(if op<=y then nxRow _ (slackOf y b.fSlack) _ _ else none)=_;rw [HS.out]
   go_wp2
   rename World=>wq
   go_loopw [18] (fun iv wi=>∃ t:Nat,I64 (t:Int)/\iv=.int .i64 (t:Int)/\nxOne (costAt m q b.fPlans x.fLow) (fun x=>slackOf x b.fSlack) op (y,row) t=nxOne (costAt m q b.fPlans x.fLow) (fun x=>slackOf x b.fSlack) op (y,row) i/\Below wc.heap.size wc wi) (fun iv _=>nr - (intOf iv).toNat)
   case atStart=>exact⟨i,HII.out,rfl,rfl,hE1⟩
   case round =>
    clear hE hE1 HII
    obtain⟨t,htI,rfl,hrow,hE⟩:=hrel
    have HROW:=Lib.hid hrow;clear hrow
    have HTI:=Lib.hid htI;clear htI
    have ⟨a0,a1,a2,a3,a4,a5,a6,a7,a8,a9⟩:=HCC.out _ hE
    by_cases hlt2:t<nr
    ·have hltI:(t:Int)<nr:=by omega
     by_cases hop:op<=y
     ·have hopd:decide (op<=y)=true:=decide_eq_true hop
      obtain⟨bR,oR,pn,rfl,hcp,hIp,hp⟩:=hRr.ati hlt2
      have HP:=Lib.hid hp.out;clear hp
      have hpb:=hRp.out pn (mem_of_at HP.out)
      obtain⟨j,rfl⟩:∃ j:Nat,pn=j:=⟨pn.toNat,by omega⟩
      have hj:j<nbPlans:=by omega
      have hjI:(j:Int)<(nbPlans:Int):=by omega
      obtain⟨bP,oP,PL,AP,nP,cP,rfl,hcP,hRP,hPX⟩:=hbPlans.planP hj
      obtain⟨c,hc⟩:∃ c,costAt m q b.fPlans x.fLow (j:Int)=c:=⟨_,rfl⟩
      have HC:=Lib.hid hc
      have hcb:-28000000000<=c/\c<=28000000000:=by rw [<- hc,costAtN hPX.out];exact planCost_bd _ _ _ _
      have K2:Hid (∀ W,Below wc.heap.size wc W->Calls Tryz.prog 115 #[.agg csm.toArray,.agg #[.int .i64 q.fVariableCount,.slice AqAtoms nqAtoms cqAtoms],.agg #[.slice AP nP cP],.slice AxLow nxLow cxLow] W fun e w'=>e=.returned (.int .i64 c)/\Below W.heap.size W w'):=by
       show ∀ W,_->_
       intro W hW
       have hX:=hBC.trans (hW.mono hBC.size)
       rw [<- hc,costAtN hPX.out]
       exact iPlanCostAt_c _ m _ q _ PL _ _ _ x.fLow W ((rModel_ok NB).keep rm (cells_below hX)) ((rQuery_ok NB).keep rq (cells_below hX)) (rPlan_rep.2 ⟨_,_,_,rfl,hRP.below (rPlanStep_ok NB) hX⟩) (hxLow.below rInt_ok hX)
      clear hc hPX
      have HC2:Hid (∀ w',Below wc.heap.size wc w'->(w'.cell? ⟨bR,oR+t,none⟩=some (.int .i64 (j:Int))/\w'.cell? ⟨bP,oP+j,none⟩=some (.slice AP nP cP))):=by
       show ∀ w',_->_
       intro w' hz
       have hZ:=hBC.trans (hz.mono hBC.size)
       exact⟨cells_below hZ _ _ hcp,cells_below hZ _ _ hcP⟩
      clear hcp hcP
      have HSS:Hid (∀ w',Below wr.heap.size wr w'->(w'.rangeAt w.heap.size 0 csm/\w'.cell? ⟨w.heap.size+1,0,none⟩=some (.int .i64 q.fVariableCount)/\w'.cell? ⟨w.heap.size+1,1,none⟩=some (.slice AqAtoms nqAtoms cqAtoms)/\w'.cell? ⟨w.heap.size+1+1,6,none⟩=some (.slice (some ⟨bP,oP,none⟩) nbPlans cbPlans)/\w'.cell? ⟨bP,oP+j,none⟩=some (.slice AP nP cP)/\w'.cell? ⟨w.heap.size+1+1,7,none⟩=some (.slice (some ⟨bC,oC,none⟩) nbContours cbContours)/\w'.cell? ⟨bC,oC+k,none⟩=some (.slice (some ⟨bR,oR,none⟩) nr cr)/\w'.cell? ⟨bR,oR+t,none⟩=some (.int .i64 (j:Int))/\w'.cell? ⟨w.heap.size+1+1+1,0,none⟩=some (.slice AxLow nxLow cxLow))):=by
       show ∀ w',_->_
       intro w' hb
       have hz:=hE.trans (hb.mono hE.size)
       obtain⟨a0,a1,a2,a3,a4,a5,a6,a7,a8,a9⟩:=HCC.out _ hz
       obtain⟨d0,d1⟩:=HC2.out _ hz
       exact⟨a0,a1,a2,a8,d1,a6,a7,d0,a9⟩
      have hd0:=hE.trans ((Below.refl wr.heap.size wr).drew.mono hE.size)
      go_wp2
      clear a0 a1 a2 a3 a4 a5 a6 a7 a8 a9
      refine hbg HSS.out (Below.refl _ _).drew (fun hH=>?_)
      refine ldm 0 60 (fun w h=>h.1) Tryz.underlying46 (by rw [lenm'];exact sizeModelT) hH ?_;refine tka 1 61 hH ?_;refine tka 2 62 hH ?_;refine tka 3 63 hH ?_;simp only [putS]
      refine tka 4 64 hH ?_;refine tka 5 65 hH ?_;refine tka 6 66 hH ?_;refine tka 7 67 hH ?_;simp only [putS]
      refine tka 8 68 hH ?_;refine tka 9 69 hH ?_;refine tka 10 70 hH ?_;refine tka 11 71 hH ?_;simp only [putS]
      refine tka 12 72 hH ?_;refine tka 13 73 hH ?_;refine tka 14 74 hH ?_;refine tka 15 75 hH ?_;simp only [putS]
      refine tka 17 77 hH ?_;simp only [putS]
      refine rd 16 (some 76) fun K hK=>?_
      clear hH
      go_simp
      refine(K2.out _ hd0).mono ?_
      rintro e w2 ⟨rfl,hb2⟩
      have hC:Below wr.heap.size wr w2:=((Below.refl wr.heap.size wr).drew.trans (hb2.mono (by simp)))
      go_wp2_with fail
      refine hK.out _ _ (HSS.out _ hC) (fun hH=>?_)
      clear hK K
      try simp only [putS]
      refine tka 18 78 hH ?_;simp only [putS]
      refine wpAnyH_done (by kernel_rfl) ?_ _
      clear hH
      have hE4:=hE.trans (hC.mono hE.size)
      clear HSS K2 HC2 hd0 hb2
      by_cases hcs:c<=s
      ·have hcsd:decide (c<=s)=true:=decide_eq_true hcs
       have HY:Hid (R=((k:Int),(t:Int),true)):=by
        show _=_
        have h1:=nxRow_yes (f:=costAt m q b.fPlans x.fLow) (s:=s) HP.out (by rw [HC.out];exact hcs)
        have h2:=hopD.out t
        rw [if_pos hop,h1,HROW.out]at h2
        rw [<- HREL.out]
        exact nxAll_yes HZ.out h2
       clear hop
       go_wp2
       go_ret3
       exact⟨by rw [HY.out];rfl,hBC.trans (hE4.mono hBC.size)⟩
      ·have hcsd:decide (c<=s)=false:=decide_eq_false hcs
       have HY:Hid (nxOne (costAt m q b.fPlans x.fLow) (fun x=>slackOf x b.fSlack) op (y,row) (t+1)=nxOne (costAt m q b.fPlans x.fLow) (fun x=>slackOf x b.fSlack) op (y,row) i):=by
        show _=_
        rw [<- HROW.out,hopD.out,hopD.out,if_pos hop,if_pos hop]
        exact(nxRow_no HP.out (by rw [HC.out];exact hcs)).symm
       clear hop
       go_wp2
       go_roundw
       case rel=>exact⟨t+1,⟨by omega,by omega⟩,by go_num,HY.out,hE4⟩
       case measure=>simp [intOf];omega
     ·have hopd:decide (op<=y)=false:=decide_eq_false hop
      have HN:Hid (nxAll (costAt m q b.fPlans x.fLow) (fun x=>slackOf x b.fSlack) op ((b.fBudgets.zip b.fContours).drop (k+1)) (k+1) 0=R):=by show _=_;rw [<- HREL.out];exact(nxAll_no HZ.out (by rw [<- HROW.out,hopD.out,if_neg hop])).symm
      clear hop
      go_wp2
      go_roundw
      case rel=>exact⟨k+1,0,by omega,I64_zero,by go_num,rfl,HN.out,hE⟩
      case measure=>simp [intOf];omega
    ·have hltI:¬ (t:Int)<nr:=by omega
     have HN:Hid (nxAll (costAt m q b.fPlans x.fLow) (fun x=>slackOf x b.fSlack) op ((b.fBudgets.zip b.fContours).drop (k+1)) (k+1) 0=R):=by show _=_;rw [<- HREL.out];exact(nxAll_no HZ.out (by rw [<- HROW.out,hopD.out];split;exact nxRow_end (by have:=HRL.out;omega);rfl)).symm
     go_wp2
     go_roundw
     case rel=>exact⟨k+1,0,by omega,I64_zero,by go_num,rfl,HN.out,hE⟩
     case measure=>simp [intOf];omega
  ·have HN:Hid (R=(0,0,false)):=by show _=_;rw [<- HREL.out];exact nxAll_end (by have:=HZL.out;omega)
   have ⟨a0,a5,a7⟩:=HEND.out _ hE
   have hlb:¬ (k:Int)<nbBudgets:=by have:=HBL.out;omega
   have hlc:¬ (k:Int)<nbContours:=by omega
   go_wp2
   go_ret3
   exact⟨by rw [HN.out];rfl,hBC.trans (hE.mono hBC.size)⟩
end Go.Proofs.YtnlcfkpcmfljeaaGreat
namespace Go.Proofs.YtnlcfkpcmfljeaaGreat
open Go.RowKit
attribute [local go_sem ↓] Go.wp_at_zero Go.wp_at_succ
theorem iBouquetOk_c (csm:List Value) (m:ModelD) (csq:List Value) (q:QueryD) (csb:List Value) (b:BouquetD) (w:World) (hm:(rModel NB).rep w csm m) (hq:(rQuery NB).rep w csq q) (hb:(rBouquet NB).rep w csb b) :
  Calls Tryz.prog 104 #[.agg csm.toArray,.agg csq.toArray,.agg csb.toArray] w fun e w'=>e=.returned (.bool (okBouquet m q b))/\Below w.heap.size w w':=by
 have rm:=hm
 have lenm:=(rModel_ok NB).len hm
 clear hm
 have rq:=hq
 obtain⟨AqAtoms,nqAtoms,cqAtoms,rfl,hqVariableCount,hqAtoms⟩:=rQuery_rep.1 hq
 clear hq
 have rb:=hb
 obtain⟨AbBoxLow,nbBoxLow,cbBoxLow,AbBoxHigh,nbBoxHigh,cbBoxHigh,AbBudgets,nbBudgets,cbBudgets,AbPlans,nbPlans,cbPlans,AbContours,nbContours,cbContours,rfl,hbVersion,hbRatio,hbSlack,hbBoxLow,hbBoxHigh,hbBudgets,hbPlans,hbContours⟩:=rBouquet_rep.1 hb
 clear hb
 obtain⟨hB,bxm,bxq,bxb⟩:=op3 w csm 46 [.int .i64 q.fVariableCount,.slice AqAtoms nqAtoms cqAtoms] 50 [.int .i64 b.fVersion,.int .i64 b.fRatio,.int .i64 b.fSlack,.slice AbBoxLow nbBoxLow cbBoxLow,.slice AbBoxHigh nbBoxHigh cbBoxHigh,.slice AbBudgets nbBudgets cbBudgets,.slice AbPlans nbPlans cbPlans,.slice AbContours nbContours cbContours] 90
 have lenm':csm.length=30:=lenm
 clear lenm
 go_enter Tryz.func104,Tryz.ntmps104
 go_upto_region 1 with fail
 obtain⟨wb,hwb⟩:∃ W,W=((((((w).alloc (.cells csm.toArray 46))).alloc (.cells #[.int .i64 q.fVariableCount,.slice AqAtoms nqAtoms cqAtoms] 50))).alloc (.cells #[.int .i64 b.fVersion,.int .i64 b.fRatio,.int .i64 b.fSlack,.slice AbBoxLow nbBoxLow cbBoxLow,.slice AbBoxHigh nbBoxHigh cbBoxHigh,.slice AbBudgets nbBudgets cbBudgets,.slice AbPlans nbPlans cbPlans,.slice AbContours nbContours cbContours] 90)):=⟨_,rfl⟩
 rw [<- hwb]at hB bxm bxq bxb ⊢
 clear hwb
 have HSS:Hid (∀ w',Below wb.heap.size wb w'->(w'.rangeAt w.heap.size 0 csm/\w'.cell? ⟨w.heap.size+1,0,none⟩=some (.int .i64 q.fVariableCount)/\w'.cell? ⟨w.heap.size+1,1,none⟩=some (.slice AqAtoms nqAtoms cqAtoms)/\w'.cell? ⟨w.heap.size+1+1,0,none⟩=some (.int .i64 b.fVersion)/\w'.cell? ⟨w.heap.size+1+1,1,none⟩=some (.int .i64 b.fRatio)/\w'.cell? ⟨w.heap.size+1+1,2,none⟩=some (.int .i64 b.fSlack)/\w'.cell? ⟨w.heap.size+1+1,3,none⟩=some (.slice AbBoxLow nbBoxLow cbBoxLow)/\w'.cell? ⟨w.heap.size+1+1,4,none⟩=some (.slice AbBoxHigh nbBoxHigh cbBoxHigh)/\w'.cell? ⟨w.heap.size+1+1,5,none⟩=some (.slice AbBudgets nbBudgets cbBudgets)/\w'.cell? ⟨w.heap.size+1+1,6,none⟩=some (.slice AbPlans nbPlans cbPlans)/\w'.cell? ⟨w.heap.size+1+1,7,none⟩=some (.slice AbContours nbContours cbContours))):=by
  show ∀ w',_->_
  intro w' hb
  exact⟨(bxm.below hb).range,(bxq.below hb) 0 _ rfl,(bxq.below hb) 1 _ rfl,(bxb.below hb) 0 _ rfl,(bxb.below hb) 1 _ rfl,(bxb.below hb) 2 _ rfl,(bxb.below hb) 3 _ rfl,(bxb.below hb) 4 _ rfl,(bxb.below hb) 5 _ rfl,(bxb.below hb) 6 _ rfl,(bxb.below hb) 7 _ rfl⟩
 have hd0:=(Below.refl wb.heap.size wb).drew
 obtain⟨v1,hv1⟩:∃ v,validBouquet q b=v:=⟨_,rfl⟩
 obtain⟨v2,hv2⟩:∃ v,isConn q (fullMask q)=v:=⟨_,rfl⟩
 obtain⟨v3,hv3⟩:∃ v,admitted m=v:=⟨_,rfl⟩
 have HN:Hid (okBouquet m q b=(v1&&(v2&&v3))):=by show _=_;unfold okBouquet;rw [hv1,hv2,hv3]
 have H1:=Lib.hid hv1
 have H2:=Lib.hid hv2
 have H3:=Lib.hid hv3
 clear hv1 hv2 hv3
 cases v1
 ·refine hbg HSS.out (Below.refl _ _).drew (fun hH=>?_)
  refine tka 0 7 hH ?_;refine tka 1 8 hH ?_;simp only [putS]
  refine rd 2 (some 9) fun K hK=>?_
  clear hH
  go_simp
  refine(iIsValidBouquet_c _ q _ b _ ((rQuery_ok NB).keep rq (cells_below (hB.trans (hd0.mono hB.size)))) ((rBouquet_ok NB).keep rb (cells_below (hB.trans (hd0.mono hB.size))))).mono ?_
  rintro e u1 ⟨rfl,hb1⟩
  rw [H1.out]
  have hC1:Below wb.heap.size wb u1:=hd0.trans (hb1.mono hd0.size)
  go_wp2_with fail
  refine hK.out _ _ (HSS.out _ hC1) (fun hH=>?_)
  clear hK K
  try simp only [putS]
  refine tka 3 10 hH ?_;refine tks 4 11 hH ?_;refine tks 5 12 hH ?_;refine tks 6 13 hH ?_;simp only [putS]
  refine tks 7 14 hH ?_;refine tka 8 15 hH ?_;refine tka 9 16 hH ?_;refine tks 10 17 hH ?_;simp only [putS]
  refine tks 11 18 hH ?_;refine tka 12 19 hH ?_;refine tka 13 6 hH ?_;simp only [putS]
  refine wpAnyH_done (by kernel_rfl) ?_ _
  clear hH
  go_wp2
  go_ret
  exact⟨ret_bool (by rw [HN.out];rfl),hB.trans (hC1.mono hB.size)⟩
 cases v2
 ·refine hbg HSS.out (Below.refl _ _).drew (fun hH=>?_)
  refine tka 0 7 hH ?_;refine tka 1 8 hH ?_;simp only [putS]
  refine rd 2 (some 9) fun K hK=>?_
  clear hH
  go_simp
  refine(iIsValidBouquet_c _ q _ b _ ((rQuery_ok NB).keep rq (cells_below (hB.trans (hd0.mono hB.size)))) ((rBouquet_ok NB).keep rb (cells_below (hB.trans (hd0.mono hB.size))))).mono ?_
  rintro e u1 ⟨rfl,hb1⟩
  rw [H1.out]
  have hC1:Below wb.heap.size wb u1:=hd0.trans (hb1.mono hd0.size)
  go_wp2_with fail
  refine hK.out _ _ (HSS.out _ hC1) (fun hH=>?_)
  clear hK K
  try simp only [putS]
  refine tka 3 10 hH ?_;refine tka 4 11 hH ?_;refine tka 5 12 hH ?_;simp only [putS]
  refine rd 6 (some 13) fun K hK=>?_
  clear hH
  go_simp
  refine(iFullMask_c _ q _ ((rQuery_ok NB).keep rq (cells_below (hB.trans (hC1.mono hB.size))))).mono ?_
  rintro e u2 ⟨rfl,hb2⟩
  have hC2:Below wb.heap.size wb u2:=hC1.trans (hb2.mono hC1.size)
  go_wp2_with fail
  refine hK.out _ _ (HSS.out _ hC2) (fun hH=>?_)
  clear hK K
  try simp only [putS]
  refine rd 7 (some 14) fun K hK=>?_
  clear hH
  go_simp
  refine(iIsConnF_c _ q _ ((rQuery_ok NB).keep rq (cells_below (hB.trans (hC2.mono hB.size))))).mono ?_
  rintro e u3 ⟨rfl,hb3⟩
  rw [H2.out]
  have hC3:Below wb.heap.size wb u3:=hC2.trans (hb3.mono hC2.size)
  go_wp2_with fail
  refine hK.out _ _ (HSS.out _ hC3) (fun hH=>?_)
  clear hK K
  try simp only [putS]
  refine tka 8 15 hH ?_;refine tka 9 16 hH ?_;refine tks 10 17 hH ?_;refine tks 11 18 hH ?_;simp only [putS]
  refine tka 12 19 hH ?_;refine tka 13 6 hH ?_;simp only [putS]
  refine wpAnyH_done (by kernel_rfl) ?_ _
  clear hH
  go_wp2
  go_ret
  exact⟨ret_bool (by rw [HN.out];rfl),hB.trans (hC3.mono hB.size)⟩
 refine hbg HSS.out (Below.refl _ _).drew (fun hH=>?_)
 refine tka 0 7 hH ?_;refine tka 1 8 hH ?_;simp only [putS]
 refine rd 2 (some 9) fun K hK=>?_
 clear hH
 go_simp
 refine(iIsValidBouquet_c _ q _ b _ ((rQuery_ok NB).keep rq (cells_below (hB.trans (hd0.mono hB.size)))) ((rBouquet_ok NB).keep rb (cells_below (hB.trans (hd0.mono hB.size))))).mono ?_
 rintro e u1 ⟨rfl,hb1⟩
 rw [H1.out]
 have hC1:Below wb.heap.size wb u1:=hd0.trans (hb1.mono hd0.size)
 go_wp2_with fail
 refine hK.out _ _ (HSS.out _ hC1) (fun hH=>?_)
 clear hK K
 try simp only [putS]
 refine tka 3 10 hH ?_;refine tka 4 11 hH ?_;refine tka 5 12 hH ?_;simp only [putS]
 refine rd 6 (some 13) fun K hK=>?_
 clear hH
 go_simp
 refine(iFullMask_c _ q _ ((rQuery_ok NB).keep rq (cells_below (hB.trans (hC1.mono hB.size))))).mono ?_
 rintro e u2 ⟨rfl,hb2⟩
 have hC2:Below wb.heap.size wb u2:=hC1.trans (hb2.mono hC1.size)
 go_wp2_with fail
 refine hK.out _ _ (HSS.out _ hC2) (fun hH=>?_)
 clear hK K
 try simp only [putS]
 refine rd 7 (some 14) fun K hK=>?_
 clear hH
 go_simp
 refine(iIsConnF_c _ q _ ((rQuery_ok NB).keep rq (cells_below (hB.trans (hC2.mono hB.size))))).mono ?_
 rintro e u3 ⟨rfl,hb3⟩
 rw [H2.out]
 have hC3:Below wb.heap.size wb u3:=hC2.trans (hb3.mono hC2.size)
 go_wp2_with fail
 refine hK.out _ _ (HSS.out _ hC3) (fun hH=>?_)
 clear hK K
 try simp only [putS]
 refine tka 8 15 hH ?_;refine tka 9 16 hH ?_;refine ldm 10 17 (fun w h=>h.1) Tryz.underlying46 (by rw [lenm'];exact sizeModelT) hH ?_;simp only [putS]
 refine rd 11 (some 18) fun K hK=>?_
 clear hH
 go_simp
 refine(iIsAdmitted_c _ m _ ((rModel_ok NB).keep rm (cells_below (hB.trans (hC3.mono hB.size))))).mono ?_
 rintro e u4 ⟨rfl,hb4⟩
 rw [H3.out]
 have hC4:Below wb.heap.size wb u4:=hC3.trans (hb4.mono hC3.size)
 go_wp2_with fail
 refine hK.out _ _ (HSS.out _ hC4) (fun hH=>?_)
 clear hK K
 try simp only [putS]
 refine tka 12 19 hH ?_;refine tka 13 6 hH ?_;simp only [putS]
 refine wpAnyH_done (by kernel_rfl) ?_ _
 clear hH
 go_wp2
 go_ret
 exact⟨ret_bool (by rw [HN.out];rfl),hB.trans (hC4.mono hB.size)⟩
theorem iBoxOkN_c (csq:List Value) (q:QueryD) (csx:List Value) (x:BoxD) (w:World) (hq:(rQuery NB).rep w csq q) (hx:(rBox NB).rep w csx x) :
  Calls Tryz.prog 105 #[.agg csq.toArray,.agg csx.toArray] w fun e w'=>e=.returned (.bool (boxOkN q x))/\Below w.heap.size w w':=by
 have rq:=hq
 obtain⟨AqAtoms,nqAtoms,cqAtoms,rfl,hqVariableCount,hqAtoms⟩:=rQuery_rep.1 hq
 clear hq
 have rx:=hx
 obtain⟨AxLow,nxLow,cxLow,AxHigh,nxHigh,cxHigh,rfl,hxLow,hxHigh⟩:=rBox_rep.1 hx
 clear hx
 obtain⟨hB,bxq,bxx⟩:=op2 w [.int .i64 q.fVariableCount,.slice AqAtoms nqAtoms cqAtoms] 50 [.slice AxLow nxLow cxLow,.slice AxHigh nxHigh cxHigh] 36
 have hnL:=hxLow.bound
 have HL:=Lib.hid hxLow.len
 obtain⟨F,hF⟩:∃ v,fullMask q=v:=⟨_,rfl⟩
 have hF15:-1<=F/\F<=15:=by rw [<- hF];exact⟨by unfold fullMask;split<;>(have:=Nat.one_le_two_pow (n:=q.fAtoms.length);omega),fm15 q⟩
 have hwr:IntKind.i64.wrap (F+1)=F+1:=IntWalk.i64_in _ (by omega)
 obtain⟨v1,hv1⟩:∃ v,validBox x=v:=⟨_,rfl⟩
 have HN:Hid (boxOkN q x=(v1&&decide ((nxLow:Int)=F+1))):=by show _=_;unfold boxOkN;rw [hv1,hF,HL.out]
 have HF:=Lib.hid hF
 have H1:=Lib.hid hv1
 clear hF hv1
 go_enter Tryz.func105,Tryz.ntmps105
 go_upto_region 1 with fail
 obtain⟨wb,hwb⟩:∃ W,W=((((w).alloc (.cells #[.int .i64 q.fVariableCount,.slice AqAtoms nqAtoms cqAtoms] 50))).alloc (.cells #[.slice AxLow nxLow cxLow,.slice AxHigh nxHigh cxHigh] 36)):=⟨_,rfl⟩
 rw [<- hwb]at hB bxq bxx ⊢
 clear hwb
 have HSS:Hid (∀ w',Below wb.heap.size wb w'->(w'.cell? ⟨w.heap.size,0,none⟩=some (.int .i64 q.fVariableCount)/\w'.cell? ⟨w.heap.size,1,none⟩=some (.slice AqAtoms nqAtoms cqAtoms)/\w'.cell? ⟨w.heap.size+1,0,none⟩=some (.slice AxLow nxLow cxLow)/\w'.cell? ⟨w.heap.size+1,1,none⟩=some (.slice AxHigh nxHigh cxHigh))):=by
  show ∀ w',_->_
  intro w' hb
  exact⟨(bxq.below hb) 0 _ rfl,(bxq.below hb) 1 _ rfl,(bxx.below hb) 0 _ rfl,(bxx.below hb) 1 _ rfl⟩
 have hd0:=(Below.refl wb.heap.size wb).drew
 cases v1
 ·refine hbg HSS.out (Below.refl _ _).drew (fun hH=>?_)
  refine tka 0 5 hH ?_;simp only [putS]
  refine rd 1 (some 6) fun K hK=>?_
  clear hH
  go_simp
  refine(iIsValidBox_c _ x _ ((rBox_ok NB).keep rx (cells_below (hB.trans (hd0.mono hB.size))))).mono ?_
  rintro e u1 ⟨rfl,hb1⟩
  rw [H1.out]
  have hC1:Below wb.heap.size wb u1:=hd0.trans (hb1.mono hd0.size)
  go_wp2_with fail
  refine hK.out _ _ (HSS.out _ hC1) (fun hH=>?_)
  clear hK K
  try simp only [putS]
  refine tka 2 7 hH ?_;refine tks 3 8 hH ?_;refine tks 4 9 hH ?_;refine tks 5 10 hH ?_;simp only [putS]
  refine tks 6 11 hH ?_;refine tks 7 12 hH ?_;refine tks 8 13 hH ?_;refine tks 9 14 hH ?_;simp only [putS]
  refine tka 10 15 hH ?_;refine tka 11 4 hH ?_;simp only [putS]
  refine wpAnyH_done (by kernel_rfl) ?_ _
  clear hH
  go_wp2
  go_ret
  exact⟨ret_bool (by rw [HN.out];rfl),hB.trans (hC1.mono hB.size)⟩
 refine hbg HSS.out (Below.refl _ _).drew (fun hH=>?_)
 refine tka 0 5 hH ?_;simp only [putS]
 refine rd 1 (some 6) fun K hK=>?_
 clear hH
 go_simp
 refine(iIsValidBox_c _ x _ ((rBox_ok NB).keep rx (cells_below (hB.trans (hd0.mono hB.size))))).mono ?_
 rintro e u1 ⟨rfl,hb1⟩
 rw [H1.out]
 have hC1:Below wb.heap.size wb u1:=hd0.trans (hb1.mono hd0.size)
 go_wp2_with fail
 refine hK.out _ _ (HSS.out _ hC1) (fun hH=>?_)
 clear hK K
 try simp only [putS]
 refine tka 2 7 hH ?_;refine tka 3 8 hH ?_;refine tka 4 9 hH ?_;refine tka 5 10 hH ?_;simp only [putS]
 refine tka 6 11 hH ?_;simp only [putS]
 refine rd 7 (some 12) fun K hK=>?_
 clear hH
 go_simp
 refine(iFullMask_c _ q _ ((rQuery_ok NB).keep rq (cells_below (hB.trans (hC1.mono hB.size))))).mono ?_
 rintro e u2 ⟨rfl,hb2⟩
 rw [HF.out]
 have hC2:Below wb.heap.size wb u2:=hC1.trans (hb2.mono hC1.size)
 go_wp2_with fail
 refine hK.out _ _ (HSS.out _ hC2) (fun hH=>?_)
 clear hK K
 try simp only [putS]
 refine tka 8 13 hH ?_;refine tka 9 14 hH ?_;refine tka 10 15 hH ?_;refine tka 11 4 hH ?_;simp only [putS]
 refine wpAnyH_done (by kernel_rfl) ?_ _
 clear hH
 go_wp2
 go_ret
 exact⟨ret_bool (by rw [HN.out];by_cases h:(nxLow:Int)=F+1<;>simp [h]),hB.trans (hC2.mono hB.size)⟩
theorem iNextRun_c (csm:List Value) (m:ModelD) (csq:List Value) (q:QueryD) (csb:List Value) (b:BouquetD) (csx:List Value) (x:BoxD) (k:Int) (i:Int) (w:World) (hm:(rModel NB).rep w csm m) (hq:(rQuery NB).rep w csq q) (hb:(rBouquet NB).rep w csb b) (hx:(rBox NB).rep w csx x) (hkI:I64 k) (hiI:I64 i) :
  Calls Tryz.prog 41 #[.agg csm.toArray,.agg csq.toArray,.agg csb.toArray,.agg csx.toArray,.int .i64 k,.int .i64 i] w fun e w'=>e=.returned (.tuple #[.int .i64 (nextRunV m q b x k i).1,.int .i64 (nextRunV m q b x k i).2.1,.bool (nextRunV m q b x k i).2.2])/\Below w.heap.size w w':=by
 have rm:=hm
 have lenm:=(rModel_ok NB).len hm
 clear hm
 have rq:=hq
 obtain⟨AqAtoms,nqAtoms,cqAtoms,rfl,hqVariableCount,hqAtoms⟩:=rQuery_rep.1 hq
 clear hq
 have rb:=hb
 obtain⟨AbBoxLow,nbBoxLow,cbBoxLow,AbBoxHigh,nbBoxHigh,cbBoxHigh,AbBudgets,nbBudgets,cbBudgets,AbPlans,nbPlans,cbPlans,AbContours,nbContours,cbContours,rfl,hbVersion,hbRatio,hbSlack,hbBoxLow,hbBoxHigh,hbBudgets,hbPlans,hbContours⟩:=rBouquet_rep.1 hb
 clear hb
 have rx:=hx
 obtain⟨AxLow,nxLow,cxLow,AxHigh,nxHigh,cxHigh,rfl,hxLow,hxHigh⟩:=rBox_rep.1 hx
 clear hx
 obtain⟨hB,bxm,bxq,bxb,bxx⟩:=op4 w csm 46 [.int .i64 q.fVariableCount,.slice AqAtoms nqAtoms cqAtoms] 50 [.int .i64 b.fVersion,.int .i64 b.fRatio,.int .i64 b.fSlack,.slice AbBoxLow nbBoxLow cbBoxLow,.slice AbBoxHigh nbBoxHigh cbBoxHigh,.slice AbBudgets nbBudgets cbBudgets,.slice AbPlans nbPlans cbPlans,.slice AbContours nbContours cbContours] 90 [.slice AxLow nxLow cxLow,.slice AxHigh nxHigh cxHigh] 36
 have lenm':csm.length=30:=lenm
 clear lenm
 have hnC:=hbContours.bound
 have HCL:=Lib.hid hbContours.len
 obtain⟨v1,hv1⟩:∃ v,okBouquet m q b=v:=⟨_,rfl⟩
 obtain⟨v2,hv2⟩:∃ v,boxOkN q x=v:=⟨_,rfl⟩
 obtain⟨v3,hv3⟩:∃ v,inR k 0 ((nbContours:Int) - 1)=v:=⟨_,rfl⟩
 have HN:Hid (canNext m q b x k i=(v1&&(v2&&(v3&&decide (0<=i))))):=by show _=_;unfold canNext;rw [hv1,hv2,HCL.out,hv3]
 have HV1:=Lib.hid hv1
 have HV2:=Lib.hid hv2
 have HV3:=Lib.hid hv3
 have K3:=Lib.hid (fun W=>within_v hv3 W)
 have hwr:IntKind.i64.wrap ((nbContours:Int) - 1)=(nbContours:Int) - 1:=IntWalk.i64_in _ (by omega)
 have HII:=Lib.hid hiI
 clear hv1 hv2 hv3 hkI hiI
 go_enter Tryz.func41,Tryz.ntmps41
 have kq_0:=bxq 0 _ rfl
 have kq_1:=bxq 1 _ rfl
 have kb_0:=bxb 0 _ rfl
 have kb_1:=bxb 1 _ rfl
 have kb_2:=bxb 2 _ rfl
 have kb_3:=bxb 3 _ rfl
 have kb_4:=bxb 4 _ rfl
 have kb_5:=bxb 5 _ rfl
 have kb_6:=bxb 6 _ rfl
 have kb_7:=bxb 7 _ rfl
 go_wp2_with (first|(refine wpList_load_mid rfl 46 _ rfl w.heap.size 0 rfl csm _ bxm.range Tryz.underlying46 rfl (by rw [lenm'];exact sizeModel) ?_))
 refine(iBouquetOk_c _ m _ q _ b _ ((rModel_ok NB).keep rm (cells_below hB)) ((rQuery_ok NB).keep rq (cells_below hB)) ((rBouquet_ok NB).keep rb (cells_below hB))).mono ?_
 rintro e w1 ⟨rfl,hb1⟩
 replace hB:=hB.trans (hb1.mono hB.size)
 replace bxm:=bxm.below hb1
 replace bxq:=bxq.below hb1
 replace bxb:=bxb.below hb1
 replace bxx:=bxx.below hb1
 clear hb1 kq_0 kq_1 kb_0 kb_1 kb_2 kb_3 kb_4 kb_5 kb_6 kb_7
 rw [HV1.out]
 cases v1
 ·have HF:Hid (nextRunV m q b x k i=(0,0,false)):=by show _=_;unfold nextRunV;rw [HN.out];rfl
  go_wp2
  go_ret3
  exact⟨by rw [HF.out];rfl,hB⟩
 have kq_0:=bxq 0 _ rfl
 have kq_1:=bxq 1 _ rfl
 have kx_0:=bxx 0 _ rfl
 have kx_1:=bxx 1 _ rfl
 go_wp2_with fail
 refine(iBoxOkN_c _ q _ x _ ((rQuery_ok NB).keep rq (cells_below hB)) ((rBox_ok NB).keep rx (cells_below hB))).mono ?_
 rintro e w2 ⟨rfl,hb2⟩
 replace hB:=hB.trans (hb2.mono hB.size)
 replace bxm:=bxm.below hb2
 replace bxq:=bxq.below hb2
 replace bxb:=bxb.below hb2
 replace bxx:=bxx.below hb2
 clear hb2 kq_0 kq_1 kx_0 kx_1
 rw [HV2.out]
 cases v2
 ·have HF:Hid (nextRunV m q b x k i=(0,0,false)):=by show _=_;unfold nextRunV;rw [HN.out];rfl
  go_wp2
  go_ret3
  exact⟨by rw [HF.out];rfl,hB⟩
 have kb_7:=bxb 7 _ rfl
 go_wp2_with fail
 refine(K3.out _).mono ?_
 rintro e w9 ⟨rfl,rfl⟩
 cases v3
 ·have HF:Hid (nextRunV m q b x k i=(0,0,false)):=by show _=_;unfold nextRunV;rw [HN.out];rfl
  go_wp2
  go_ret3
  exact⟨by rw [HF.out];rfl,hB⟩
 by_cases hi:i<0
 ·have hid:decide (i<0)=true:=decide_eq_true hi
  have HF:Hid (nextRunV m q b x k i=(0,0,false)):=by show _=_;unfold nextRunV;rw [HN.out,decide_eq_false (by omega)];rfl
  clear hi
  go_wp2
  go_ret3
  exact⟨by rw [HF.out];rfl,hB⟩
 ·have hid:decide (i<0)=false:=decide_eq_false hi
  have HF:Hid (nextRunV m q b x k i=nextR m q b x.fLow k.toNat i.toNat):=by show _=_;unfold nextRunV;rw [HN.out,decide_eq_true (by omega)];rfl
  have hkr:=inR_t.1 HV3.out
  have HVB:Hid (validBouquet q b=true):=by
   have h:=HV1.out
   unfold okBouquet at h
   simp only [Bool.and_eq_true]at h
   exact h.1
  have HI2:=Lib.hid (show 0<=i by omega)
  clear hi
  have kq_0:=bxq 0 _ rfl
  have kq_1:=bxq 1 _ rfl
  have kb_0:=bxb 0 _ rfl
  have kb_1:=bxb 1 _ rfl
  have kb_2:=bxb 2 _ rfl
  have kb_3:=bxb 3 _ rfl
  have kb_4:=bxb 4 _ rfl
  have kb_5:=bxb 5 _ rfl
  have kb_6:=bxb 6 _ rfl
  have kx_0:=bxx 0 _ rfl
  have kx_1:=bxx 1 _ rfl
  go_wp2_with (first|(refine wpList_load_mid rfl 46 _ rfl w.heap.size 0 rfl csm _ bxm.range Tryz.underlying46 rfl (by rw [lenm'];exact sizeModel) ?_))
  refine(iNext_c _ m _ q _ b _ x k i _ ((rModel_ok NB).keep rm (cells_below hB)) ((rQuery_ok NB).keep rq (cells_below hB)) ((rBouquet_ok NB).keep rb (cells_below hB)) ((rBox_ok NB).keep rx (cells_below hB)) HVB.out hkr.1 (by rw [HCL.out];omega) HI2.out HII.out).mono ?_
  rintro e w3 ⟨rfl,hb3⟩
  replace hB:=hB.trans (hb3.mono hB.size)
  replace bxm:=bxm.below hb3
  replace bxq:=bxq.below hb3
  replace bxb:=bxb.below hb3
  replace bxx:=bxx.below hb3
  clear hb3 kb_7 kq_0 kq_1 kb_0 kb_1 kb_2 kb_3 kb_4 kb_5 kb_6 kx_0 kx_1
  obtain⟨R,hR⟩:∃ R,nextR m q b x.fLow k.toNat i.toNat=R:=⟨_,rfl⟩
  rw [hR]
  have HR:=Lib.hid hR
  clear hR
  go_wp2
  go_ret3
  exact⟨by rw [HF.out,HR.out];rfl,hB⟩
end Go.Proofs.YtnlcfkpcmfljeaaGreat
namespace Go.Proofs.YtnlcfkpcmfljeaaGreat
open Go.RowKit
attribute [local go_sem ↓] Go.wp_at_zero Go.wp_at_succ
theorem sNextRun_c (csm:List Value) (m:ModelD) (csq:List Value) (q:QueryD) (csb:List Value) (b:BouquetD) (csx:List Value) (x:BoxD) (k:Int) (i:Int) (w:World) (hm:(rModel NB).rep w csm m) (hq:(rQuery NB).rep w csq q) (hb:(rBouquet NB).rep w csb b) (hx:(rBox NB).rep w csx x) (hkI:I64 k) (hiI:I64 i) :
  Calls Tryz.prog 39 #[.agg csm.toArray,.agg csq.toArray,.agg csb.toArray,.agg csx.toArray,.int .i64 k,.int .i64 i] w fun e w'=>e=.returned (.tuple #[.int .i64 (nextRunV m q b x k i).1,.int .i64 (nextRunV m q b x k i).2.1,.bool (nextRunV m q b x k i).2.2])/\Below w.heap.size w w':=by
 have rm:=hm
 have lenm:=(rModel_ok NB).len hm
 clear hm
 have rq:=hq
 obtain⟨AqAtoms,nqAtoms,cqAtoms,rfl,hqVariableCount,hqAtoms⟩:=rQuery_rep.1 hq
 clear hq
 have rb:=hb
 obtain⟨AbBoxLow,nbBoxLow,cbBoxLow,AbBoxHigh,nbBoxHigh,cbBoxHigh,AbBudgets,nbBudgets,cbBudgets,AbPlans,nbPlans,cbPlans,AbContours,nbContours,cbContours,rfl,hbVersion,hbRatio,hbSlack,hbBoxLow,hbBoxHigh,hbBudgets,hbPlans,hbContours⟩:=rBouquet_rep.1 hb
 clear hb
 have rx:=hx
 obtain⟨AxLow,nxLow,cxLow,AxHigh,nxHigh,cxHigh,rfl,hxLow,hxHigh⟩:=rBox_rep.1 hx
 clear hx
 obtain⟨hB,bxm,bxq,bxb,bxx⟩:=op4 w csm 46 [.int .i64 q.fVariableCount,.slice AqAtoms nqAtoms cqAtoms] 50 [.int .i64 b.fVersion,.int .i64 b.fRatio,.int .i64 b.fSlack,.slice AbBoxLow nbBoxLow cbBoxLow,.slice AbBoxHigh nbBoxHigh cbBoxHigh,.slice AbBudgets nbBudgets cbBudgets,.slice AbPlans nbPlans cbPlans,.slice AbContours nbContours cbContours] 90 [.slice AxLow nxLow cxLow,.slice AxHigh nxHigh cxHigh] 36
 have lenm':csm.length=30:=lenm
 clear lenm
 have hnC:=hbBudgets.bound
 have hnL:=hxLow.bound
 have HCL:=Lib.hid hbContours.len
 have HBL:=Lib.hid hbBudgets.len
 have HXL:=Lib.hid hxLow.len
 obtain⟨F,hF⟩:∃ v,fullMask q=v:=⟨_,rfl⟩
 have hF15:-1<=F/\F<=15:=by rw [<- hF];exact⟨by unfold fullMask;split<;>(have:=Nat.one_le_two_pow (n:=q.fAtoms.length);omega),fm15 q⟩
 have hwf:IntKind.i64.wrap (F+1)=F+1:=IntWalk.i64_in _ (by omega)
 obtain⟨v1,hv1⟩:∃ v,admitted m=v:=⟨_,rfl⟩
 obtain⟨v2,hv2⟩:∃ v,validBouquet q b=v:=⟨_,rfl⟩
 obtain⟨v3,hv3⟩:∃ v,isConn q F=v:=⟨_,rfl⟩
 obtain⟨v4,hv4⟩:∃ v,validBox x=v:=⟨_,rfl⟩
 obtain⟨v5,hv5⟩:∃ v,((nxLow:Int) != F+1)=v:=⟨_,rfl⟩
 obtain⟨v6,hv6⟩:∃ v,inR k 0 ((nbBudgets:Int) - 1)=v:=⟨_,rfl⟩
 obtain⟨v7,hv7⟩:∃ v,decide (i<0)=v:=⟨_,rfl⟩
 have HN:Hid (canNext m q b x k i=(v2&&(v3&&v1)&&(v4&&!v5&&(v6&&!v7)))):=by
  show _=_
  have e5:decide ((x.fLow.length:Int)=F+1)=!v5:=by
   rw [<- hv5,HXL.out]
   by_cases h:(nxLow:Int)=F+1<;>simp [h]
  have e7:decide (0<=i)=!v7:=by
   rw [<- hv7]
   by_cases h:i<0
   ·rw [decide_eq_true h,decide_eq_false (by omega)];rfl
   ·rw [decide_eq_false h,decide_eq_true (by omega)];rfl
  unfold canNext okBouquet boxOkN
  rw [hv1,hv2,hF,hv3,hv4,e5,e7]
  cases v2 with
  | false=>rfl
  | true =>
   have hl:=(vbq_parts hv2).2.2.2.2.2
   rw [hl,HBL.out,hv6]
 have HF:=Lib.hid hF
 have HV1:=Lib.hid hv1
 have HV2:=Lib.hid hv2
 have HV3:=Lib.hid hv3
 have HV4:=Lib.hid hv4
 have HV6:=Lib.hid hv6
 have HV7:=Lib.hid hv7
 have K6:=Lib.hid (fun W=>l1In_v hv6 W)
 have hwr:IntKind.i64.wrap ((nbBudgets:Int) - 1)=(nbBudgets:Int) - 1:=IntWalk.i64_in _ (by omega)
 have HII:=Lib.hid hiI
 clear hF hv1 hv2 hv3 hv4 hv6 hkI hiI
 go_enter Tryz.func39,Tryz.ntmps39
 go_upto_region 1 with fail
 obtain⟨wb,hwb⟩:∃ W,W=((((((((w).alloc (.cells csm.toArray 46))).alloc (.cells #[.int .i64 q.fVariableCount,.slice AqAtoms nqAtoms cqAtoms] 50))).alloc (.cells #[.int .i64 b.fVersion,.int .i64 b.fRatio,.int .i64 b.fSlack,.slice AbBoxLow nbBoxLow cbBoxLow,.slice AbBoxHigh nbBoxHigh cbBoxHigh,.slice AbBudgets nbBudgets cbBudgets,.slice AbPlans nbPlans cbPlans,.slice AbContours nbContours cbContours] 90))).alloc (.cells #[.slice AxLow nxLow cxLow,.slice AxHigh nxHigh cxHigh] 36)):=⟨_,rfl⟩
 rw [<- hwb]at hB bxm bxq bxb bxx ⊢
 clear hwb
 have HSS:Hid (∀ w',Below wb.heap.size wb w'->(w'.rangeAt w.heap.size 0 csm/\w'.cell? ⟨w.heap.size+1,0,none⟩=some (.int .i64 q.fVariableCount)/\w'.cell? ⟨w.heap.size+1,1,none⟩=some (.slice AqAtoms nqAtoms cqAtoms)/\w'.cell? ⟨w.heap.size+1+1,0,none⟩=some (.int .i64 b.fVersion)/\w'.cell? ⟨w.heap.size+1+1,1,none⟩=some (.int .i64 b.fRatio)/\w'.cell? ⟨w.heap.size+1+1,2,none⟩=some (.int .i64 b.fSlack)/\w'.cell? ⟨w.heap.size+1+1,3,none⟩=some (.slice AbBoxLow nbBoxLow cbBoxLow)/\w'.cell? ⟨w.heap.size+1+1,4,none⟩=some (.slice AbBoxHigh nbBoxHigh cbBoxHigh)/\w'.cell? ⟨w.heap.size+1+1,5,none⟩=some (.slice AbBudgets nbBudgets cbBudgets)/\w'.cell? ⟨w.heap.size+1+1,6,none⟩=some (.slice AbPlans nbPlans cbPlans)/\w'.cell? ⟨w.heap.size+1+1,7,none⟩=some (.slice AbContours nbContours cbContours)/\w'.cell? ⟨w.heap.size+1+1+1,0,none⟩=some (.slice AxLow nxLow cxLow)/\w'.cell? ⟨w.heap.size+1+1+1,1,none⟩=some (.slice AxHigh nxHigh cxHigh))):=by
  show ∀ w',_->_
  intro w' hb
  exact⟨(bxm.below hb).range,(bxq.below hb) 0 _ rfl,(bxq.below hb) 1 _ rfl,(bxb.below hb) 0 _ rfl,(bxb.below hb) 1 _ rfl,(bxb.below hb) 2 _ rfl,(bxb.below hb) 3 _ rfl,(bxb.below hb) 4 _ rfl,(bxb.below hb) 5 _ rfl,(bxb.below hb) 6 _ rfl,(bxb.below hb) 7 _ rfl,(bxx.below hb) 0 _ rfl,(bxx.below hb) 1 _ rfl⟩
 have hd0:=(Below.refl wb.heap.size wb).drew
 cases v1
 ·refine hbg HSS.out (Below.refl _ _).drew (fun hH=>?_)
  refine ldm 0 18 (fun w h=>h.1) Tryz.underlying46 (by rw [lenm'];exact sizeModelT) hH ?_;simp only [putS]
  refine rd 1 (some 19) fun K hK=>?_
  clear hH
  go_simp
  refine(sIsAdmitted_c _ m _ ((rModel_ok NB).keep rm (cells_below (hB.trans (hd0.mono hB.size))))).mono ?_
  rintro e u1 ⟨rfl,hb1⟩
  rw [HV1.out]
  have hC1:Below wb.heap.size wb u1:=hd0.trans (hb1.mono hd0.size)
  go_wp2_with fail
  refine hK.out _ _ (HSS.out _ hC1) (fun hH=>?_)
  clear hK K
  try simp only [putS]
  refine tka 2 20 hH ?_;refine tka 3 21 hH ?_;refine tks 4 22 hH ?_;refine tks 5 23 hH ?_;simp only [putS]
  refine tks 6 24 hH ?_;refine tks 7 25 hH ?_;refine tka 8 26 hH ?_;refine tka 9 27 hH ?_;simp only [putS]
  refine tks 10 28 hH ?_;refine tks 11 29 hH ?_;refine tks 12 30 hH ?_;refine tks 13 31 hH ?_;simp only [putS]
  refine tks 14 32 hH ?_;refine tka 15 33 hH ?_;refine tka 16 34 hH ?_;refine tks 17 35 hH ?_;simp only [putS]
  refine tks 18 36 hH ?_;refine tks 19 37 hH ?_;refine tka 20 38 hH ?_;refine tka 21 39 hH ?_;simp only [putS]
  refine tks 22 40 hH ?_;refine tks 23 41 hH ?_;refine tks 24 42 hH ?_;refine tks 25 43 hH ?_;simp only [putS]
  refine tks 26 44 hH ?_;refine tks 27 45 hH ?_;refine tks 28 46 hH ?_;refine tka 29 47 hH ?_;simp only [putS]
  refine tka 30 48 hH ?_;refine tks 31 49 hH ?_;refine tks 32 50 hH ?_;refine tks 33 51 hH ?_;simp only [putS]
  refine tks 34 52 hH ?_;refine tks 35 53 hH ?_;refine tks 36 54 hH ?_;refine tks 37 55 hH ?_;simp only [putS]
  refine tka 38 56 hH ?_;refine tka 39 57 hH ?_;refine tks 40 58 hH ?_;refine tks 41 59 hH ?_;simp only [putS]
  refine tka 42 60 hH ?_;simp only [putS]
  refine wpAnyH_done (by kernel_rfl) ?_ _
  clear hH
  have HQ:Hid (nextRunV m q b x k i=(0,0,false)):=by show _=_;unfold nextRunV;rw [HN.out];simp
  go_wp2
  go_ret3
  exact⟨by rw [HQ.out];rfl,hB.trans (hC1.mono hB.size)⟩
 cases v2
 ·refine hbg HSS.out (Below.refl _ _).drew (fun hH=>?_)
  refine ldm 0 18 (fun w h=>h.1) Tryz.underlying46 (by rw [lenm'];exact sizeModelT) hH ?_;simp only [putS]
  refine rd 1 (some 19) fun K hK=>?_
  clear hH
  go_simp
  refine(sIsAdmitted_c _ m _ ((rModel_ok NB).keep rm (cells_below (hB.trans (hd0.mono hB.size))))).mono ?_
  rintro e u1 ⟨rfl,hb1⟩
  rw [HV1.out]
  have hC1:Below wb.heap.size wb u1:=hd0.trans (hb1.mono hd0.size)
  go_wp2_with fail
  refine hK.out _ _ (HSS.out _ hC1) (fun hH=>?_)
  clear hK K
  try simp only [putS]
  refine tka 2 20 hH ?_;refine tka 3 21 hH ?_;refine tka 4 22 hH ?_;refine tka 5 23 hH ?_;simp only [putS]
  refine rd 6 (some 24) fun K hK=>?_
  clear hH
  go_simp
  refine(sIsValidBouquet_c _ q _ b _ ((rQuery_ok NB).keep rq (cells_below (hB.trans (hC1.mono hB.size)))) ((rBouquet_ok NB).keep rb (cells_below (hB.trans (hC1.mono hB.size))))).mono ?_
  rintro e u2 ⟨rfl,hb2⟩
  rw [HV2.out]
  have hC2:Below wb.heap.size wb u2:=hC1.trans (hb2.mono hC1.size)
  go_wp2_with fail
  refine hK.out _ _ (HSS.out _ hC2) (fun hH=>?_)
  clear hK K
  try simp only [putS]
  refine tka 7 25 hH ?_;refine tka 8 26 hH ?_;refine tka 9 27 hH ?_;refine tks 10 28 hH ?_;simp only [putS]
  refine tks 11 29 hH ?_;refine tks 12 30 hH ?_;refine tks 13 31 hH ?_;refine tks 14 32 hH ?_;simp only [putS]
  refine tka 15 33 hH ?_;refine tka 16 34 hH ?_;refine tks 17 35 hH ?_;refine tks 18 36 hH ?_;simp only [putS]
  refine tks 19 37 hH ?_;refine tka 20 38 hH ?_;refine tka 21 39 hH ?_;refine tks 22 40 hH ?_;simp only [putS]
  refine tks 23 41 hH ?_;refine tks 24 42 hH ?_;refine tks 25 43 hH ?_;refine tks 26 44 hH ?_;simp only [putS]
  refine tks 27 45 hH ?_;refine tks 28 46 hH ?_;refine tka 29 47 hH ?_;refine tka 30 48 hH ?_;simp only [putS]
  refine tks 31 49 hH ?_;refine tks 32 50 hH ?_;refine tks 33 51 hH ?_;refine tks 34 52 hH ?_;simp only [putS]
  refine tks 35 53 hH ?_;refine tks 36 54 hH ?_;refine tks 37 55 hH ?_;refine tka 38 56 hH ?_;simp only [putS]
  refine tka 39 57 hH ?_;refine tks 40 58 hH ?_;refine tks 41 59 hH ?_;refine tka 42 60 hH ?_;simp only [putS]
  refine wpAnyH_done (by kernel_rfl) ?_ _
  clear hH
  have HQ:Hid (nextRunV m q b x k i=(0,0,false)):=by show _=_;unfold nextRunV;rw [HN.out];simp
  go_wp2
  go_ret3
  exact⟨by rw [HQ.out];rfl,hB.trans (hC2.mono hB.size)⟩
 cases v3
 ·refine hbg HSS.out (Below.refl _ _).drew (fun hH=>?_)
  refine ldm 0 18 (fun w h=>h.1) Tryz.underlying46 (by rw [lenm'];exact sizeModelT) hH ?_;simp only [putS]
  refine rd 1 (some 19) fun K hK=>?_
  clear hH
  go_simp
  refine(sIsAdmitted_c _ m _ ((rModel_ok NB).keep rm (cells_below (hB.trans (hd0.mono hB.size))))).mono ?_
  rintro e u1 ⟨rfl,hb1⟩
  rw [HV1.out]
  have hC1:Below wb.heap.size wb u1:=hd0.trans (hb1.mono hd0.size)
  go_wp2_with fail
  refine hK.out _ _ (HSS.out _ hC1) (fun hH=>?_)
  clear hK K
  try simp only [putS]
  refine tka 2 20 hH ?_;refine tka 3 21 hH ?_;refine tka 4 22 hH ?_;refine tka 5 23 hH ?_;simp only [putS]
  refine rd 6 (some 24) fun K hK=>?_
  clear hH
  go_simp
  refine(sIsValidBouquet_c _ q _ b _ ((rQuery_ok NB).keep rq (cells_below (hB.trans (hC1.mono hB.size)))) ((rBouquet_ok NB).keep rb (cells_below (hB.trans (hC1.mono hB.size))))).mono ?_
  rintro e u2 ⟨rfl,hb2⟩
  rw [HV2.out]
  have hC2:Below wb.heap.size wb u2:=hC1.trans (hb2.mono hC1.size)
  go_wp2_with fail
  refine hK.out _ _ (HSS.out _ hC2) (fun hH=>?_)
  clear hK K
  try simp only [putS]
  refine tka 7 25 hH ?_;refine tka 8 26 hH ?_;refine tka 9 27 hH ?_;refine tka 10 28 hH ?_;simp only [putS]
  refine tka 11 29 hH ?_;simp only [putS]
  refine rd 12 (some 30) fun K hK=>?_
  clear hH
  go_simp
  refine(sFullMask_c _ q _ ((rQuery_ok NB).keep rq (cells_below (hB.trans (hC2.mono hB.size))))).mono ?_
  rintro e u3 ⟨rfl,hb3⟩
  rw [HF.out]
  have hC3:Below wb.heap.size wb u3:=hC2.trans (hb3.mono hC2.size)
  go_wp2_with fail
  refine hK.out _ _ (HSS.out _ hC3) (fun hH=>?_)
  clear hK K
  try simp only [putS]
  refine rd 13 (some 31) fun K hK=>?_
  clear hH
  go_simp
  refine(sIsConnected_c _ q F _ ((rQuery_ok NB).keep rq (cells_below (hB.trans (hC3.mono hB.size))))).mono ?_
  rintro e u4 ⟨rfl,hb4⟩
  rw [HV3.out]
  have hC4:Below wb.heap.size wb u4:=hC3.trans (hb4.mono hC3.size)
  go_wp2_with fail
  refine hK.out _ _ (HSS.out _ hC4) (fun hH=>?_)
  clear hK K
  try simp only [putS]
  refine tka 14 32 hH ?_;refine tka 15 33 hH ?_;refine tka 16 34 hH ?_;refine tks 17 35 hH ?_;simp only [putS]
  refine tks 18 36 hH ?_;refine tks 19 37 hH ?_;refine tka 20 38 hH ?_;refine tka 21 39 hH ?_;simp only [putS]
  refine tks 22 40 hH ?_;refine tks 23 41 hH ?_;refine tks 24 42 hH ?_;refine tks 25 43 hH ?_;simp only [putS]
  refine tks 26 44 hH ?_;refine tks 27 45 hH ?_;refine tks 28 46 hH ?_;refine tka 29 47 hH ?_;simp only [putS]
  refine tka 30 48 hH ?_;refine tks 31 49 hH ?_;refine tks 32 50 hH ?_;refine tks 33 51 hH ?_;simp only [putS]
  refine tks 34 52 hH ?_;refine tks 35 53 hH ?_;refine tks 36 54 hH ?_;refine tks 37 55 hH ?_;simp only [putS]
  refine tka 38 56 hH ?_;refine tka 39 57 hH ?_;refine tks 40 58 hH ?_;refine tks 41 59 hH ?_;simp only [putS]
  refine tka 42 60 hH ?_;simp only [putS]
  refine wpAnyH_done (by kernel_rfl) ?_ _
  clear hH
  have HQ:Hid (nextRunV m q b x k i=(0,0,false)):=by show _=_;unfold nextRunV;rw [HN.out];simp
  go_wp2
  go_ret3
  exact⟨by rw [HQ.out];rfl,hB.trans (hC4.mono hB.size)⟩
 cases v4
 ·refine hbg HSS.out (Below.refl _ _).drew (fun hH=>?_)
  refine ldm 0 18 (fun w h=>h.1) Tryz.underlying46 (by rw [lenm'];exact sizeModelT) hH ?_;simp only [putS]
  refine rd 1 (some 19) fun K hK=>?_
  clear hH
  go_simp
  refine(sIsAdmitted_c _ m _ ((rModel_ok NB).keep rm (cells_below (hB.trans (hd0.mono hB.size))))).mono ?_
  rintro e u1 ⟨rfl,hb1⟩
  rw [HV1.out]
  have hC1:Below wb.heap.size wb u1:=hd0.trans (hb1.mono hd0.size)
  go_wp2_with fail
  refine hK.out _ _ (HSS.out _ hC1) (fun hH=>?_)
  clear hK K
  try simp only [putS]
  refine tka 2 20 hH ?_;refine tka 3 21 hH ?_;refine tka 4 22 hH ?_;refine tka 5 23 hH ?_;simp only [putS]
  refine rd 6 (some 24) fun K hK=>?_
  clear hH
  go_simp
  refine(sIsValidBouquet_c _ q _ b _ ((rQuery_ok NB).keep rq (cells_below (hB.trans (hC1.mono hB.size)))) ((rBouquet_ok NB).keep rb (cells_below (hB.trans (hC1.mono hB.size))))).mono ?_
  rintro e u2 ⟨rfl,hb2⟩
  rw [HV2.out]
  have hC2:Below wb.heap.size wb u2:=hC1.trans (hb2.mono hC1.size)
  go_wp2_with fail
  refine hK.out _ _ (HSS.out _ hC2) (fun hH=>?_)
  clear hK K
  try simp only [putS]
  refine tka 7 25 hH ?_;refine tka 8 26 hH ?_;refine tka 9 27 hH ?_;refine tka 10 28 hH ?_;simp only [putS]
  refine tka 11 29 hH ?_;simp only [putS]
  refine rd 12 (some 30) fun K hK=>?_
  clear hH
  go_simp
  refine(sFullMask_c _ q _ ((rQuery_ok NB).keep rq (cells_below (hB.trans (hC2.mono hB.size))))).mono ?_
  rintro e u3 ⟨rfl,hb3⟩
  rw [HF.out]
  have hC3:Below wb.heap.size wb u3:=hC2.trans (hb3.mono hC2.size)
  go_wp2_with fail
  refine hK.out _ _ (HSS.out _ hC3) (fun hH=>?_)
  clear hK K
  try simp only [putS]
  refine rd 13 (some 31) fun K hK=>?_
  clear hH
  go_simp
  refine(sIsConnected_c _ q F _ ((rQuery_ok NB).keep rq (cells_below (hB.trans (hC3.mono hB.size))))).mono ?_
  rintro e u4 ⟨rfl,hb4⟩
  rw [HV3.out]
  have hC4:Below wb.heap.size wb u4:=hC3.trans (hb4.mono hC3.size)
  go_wp2_with fail
  refine hK.out _ _ (HSS.out _ hC4) (fun hH=>?_)
  clear hK K
  try simp only [putS]
  refine tka 14 32 hH ?_;refine tka 15 33 hH ?_;refine tka 16 34 hH ?_;refine tka 17 35 hH ?_;simp only [putS]
  refine rd 18 (some 36) fun K hK=>?_
  clear hH
  go_simp
  refine(sIsValidBox_c _ x _ ((rBox_ok NB).keep rx (cells_below (hB.trans (hC4.mono hB.size))))).mono ?_
  rintro e u5 ⟨rfl,hb5⟩
  rw [HV4.out]
  have hC5:Below wb.heap.size wb u5:=hC4.trans (hb5.mono hC4.size)
  go_wp2_with fail
  refine hK.out _ _ (HSS.out _ hC5) (fun hH=>?_)
  clear hK K
  try simp only [putS]
  refine tka 19 37 hH ?_;refine tka 20 38 hH ?_;refine tka 21 39 hH ?_;refine tks 22 40 hH ?_;simp only [putS]
  refine tks 23 41 hH ?_;refine tks 24 42 hH ?_;refine tks 25 43 hH ?_;refine tks 26 44 hH ?_;simp only [putS]
  refine tks 27 45 hH ?_;refine tks 28 46 hH ?_;refine tka 29 47 hH ?_;refine tka 30 48 hH ?_;simp only [putS]
  refine tks 31 49 hH ?_;refine tks 32 50 hH ?_;refine tks 33 51 hH ?_;refine tks 34 52 hH ?_;simp only [putS]
  refine tks 35 53 hH ?_;refine tks 36 54 hH ?_;refine tks 37 55 hH ?_;refine tka 38 56 hH ?_;simp only [putS]
  refine tka 39 57 hH ?_;refine tks 40 58 hH ?_;refine tks 41 59 hH ?_;refine tka 42 60 hH ?_;simp only [putS]
  refine wpAnyH_done (by kernel_rfl) ?_ _
  clear hH
  have HQ:Hid (nextRunV m q b x k i=(0,0,false)):=by show _=_;unfold nextRunV;rw [HN.out];simp
  go_wp2
  go_ret3
  exact⟨by rw [HQ.out];rfl,hB.trans (hC5.mono hB.size)⟩
 cases v5
 rotate_left
 ·refine hbg HSS.out (Below.refl _ _).drew (fun hH=>?_)
  refine ldm 0 18 (fun w h=>h.1) Tryz.underlying46 (by rw [lenm'];exact sizeModelT) hH ?_;simp only [putS]
  refine rd 1 (some 19) fun K hK=>?_
  clear hH
  go_simp
  refine(sIsAdmitted_c _ m _ ((rModel_ok NB).keep rm (cells_below (hB.trans (hd0.mono hB.size))))).mono ?_
  rintro e u1 ⟨rfl,hb1⟩
  rw [HV1.out]
  have hC1:Below wb.heap.size wb u1:=hd0.trans (hb1.mono hd0.size)
  go_wp2_with fail
  refine hK.out _ _ (HSS.out _ hC1) (fun hH=>?_)
  clear hK K
  try simp only [putS]
  refine tka 2 20 hH ?_;refine tka 3 21 hH ?_;refine tka 4 22 hH ?_;refine tka 5 23 hH ?_;simp only [putS]
  refine rd 6 (some 24) fun K hK=>?_
  clear hH
  go_simp
  refine(sIsValidBouquet_c _ q _ b _ ((rQuery_ok NB).keep rq (cells_below (hB.trans (hC1.mono hB.size)))) ((rBouquet_ok NB).keep rb (cells_below (hB.trans (hC1.mono hB.size))))).mono ?_
  rintro e u2 ⟨rfl,hb2⟩
  rw [HV2.out]
  have hC2:Below wb.heap.size wb u2:=hC1.trans (hb2.mono hC1.size)
  go_wp2_with fail
  refine hK.out _ _ (HSS.out _ hC2) (fun hH=>?_)
  clear hK K
  try simp only [putS]
  refine tka 7 25 hH ?_;refine tka 8 26 hH ?_;refine tka 9 27 hH ?_;refine tka 10 28 hH ?_;simp only [putS]
  refine tka 11 29 hH ?_;simp only [putS]
  refine rd 12 (some 30) fun K hK=>?_
  clear hH
  go_simp
  refine(sFullMask_c _ q _ ((rQuery_ok NB).keep rq (cells_below (hB.trans (hC2.mono hB.size))))).mono ?_
  rintro e u3 ⟨rfl,hb3⟩
  rw [HF.out]
  have hC3:Below wb.heap.size wb u3:=hC2.trans (hb3.mono hC2.size)
  go_wp2_with fail
  refine hK.out _ _ (HSS.out _ hC3) (fun hH=>?_)
  clear hK K
  try simp only [putS]
  refine rd 13 (some 31) fun K hK=>?_
  clear hH
  go_simp
  refine(sIsConnected_c _ q F _ ((rQuery_ok NB).keep rq (cells_below (hB.trans (hC3.mono hB.size))))).mono ?_
  rintro e u4 ⟨rfl,hb4⟩
  rw [HV3.out]
  have hC4:Below wb.heap.size wb u4:=hC3.trans (hb4.mono hC3.size)
  go_wp2_with fail
  refine hK.out _ _ (HSS.out _ hC4) (fun hH=>?_)
  clear hK K
  try simp only [putS]
  refine tka 14 32 hH ?_;refine tka 15 33 hH ?_;refine tka 16 34 hH ?_;refine tka 17 35 hH ?_;simp only [putS]
  refine rd 18 (some 36) fun K hK=>?_
  clear hH
  go_simp
  refine(sIsValidBox_c _ x _ ((rBox_ok NB).keep rx (cells_below (hB.trans (hC4.mono hB.size))))).mono ?_
  rintro e u5 ⟨rfl,hb5⟩
  rw [HV4.out]
  have hC5:Below wb.heap.size wb u5:=hC4.trans (hb5.mono hC4.size)
  go_wp2_with fail
  refine hK.out _ _ (HSS.out _ hC5) (fun hH=>?_)
  clear hK K
  try simp only [putS]
  refine tka 19 37 hH ?_;refine tka 20 38 hH ?_;refine tka 21 39 hH ?_;refine tka 22 40 hH ?_;simp only [putS]
  refine tka 23 41 hH ?_;refine tka 24 42 hH ?_;refine tka 25 43 hH ?_;simp only [putS]
  refine rd 26 (some 44) fun K hK=>?_
  clear hH
  go_simp
  refine(sFullMask_c _ q _ ((rQuery_ok NB).keep rq (cells_below (hB.trans (hC5.mono hB.size))))).mono ?_
  rintro e u6 ⟨rfl,hb6⟩
  rw [HF.out]
  have hC6:Below wb.heap.size wb u6:=hC5.trans (hb6.mono hC5.size)
  go_wp2_with fail
  refine hK.out _ _ (HSS.out _ hC6) (fun hH=>?_)
  clear hK K
  try simp only [putS]
  refine tka 27 45 hH ?_;refine tka 28 46 hH ?_;refine tka 29 47 hH ?_;refine tka 30 48 hH ?_;simp only [putS]
  refine tks 31 49 hH ?_;refine tks 32 50 hH ?_;refine tks 33 51 hH ?_;refine tks 34 52 hH ?_;simp only [putS]
  refine tks 35 53 hH ?_;refine tks 36 54 hH ?_;refine tks 37 55 hH ?_;refine tka 38 56 hH ?_;simp only [putS]
  refine tka 39 57 hH ?_;refine tks 40 58 hH ?_;refine tks 41 59 hH ?_;refine tka 42 60 hH ?_;simp only [putS]
  refine wpAnyH_done (by kernel_rfl) ?_ _
  clear hH
  have HQ:Hid (nextRunV m q b x k i=(0,0,false)):=by show _=_;unfold nextRunV;rw [HN.out];simp
  go_wp2
  go_ret3
  exact⟨by rw [HQ.out];rfl,hB.trans (hC6.mono hB.size)⟩
 cases v6
 ·refine hbg HSS.out (Below.refl _ _).drew (fun hH=>?_)
  refine ldm 0 18 (fun w h=>h.1) Tryz.underlying46 (by rw [lenm'];exact sizeModelT) hH ?_;simp only [putS]
  refine rd 1 (some 19) fun K hK=>?_
  clear hH
  go_simp
  refine(sIsAdmitted_c _ m _ ((rModel_ok NB).keep rm (cells_below (hB.trans (hd0.mono hB.size))))).mono ?_
  rintro e u1 ⟨rfl,hb1⟩
  rw [HV1.out]
  have hC1:Below wb.heap.size wb u1:=hd0.trans (hb1.mono hd0.size)
  go_wp2_with fail
  refine hK.out _ _ (HSS.out _ hC1) (fun hH=>?_)
  clear hK K
  try simp only [putS]
  refine tka 2 20 hH ?_;refine tka 3 21 hH ?_;refine tka 4 22 hH ?_;refine tka 5 23 hH ?_;simp only [putS]
  refine rd 6 (some 24) fun K hK=>?_
  clear hH
  go_simp
  refine(sIsValidBouquet_c _ q _ b _ ((rQuery_ok NB).keep rq (cells_below (hB.trans (hC1.mono hB.size)))) ((rBouquet_ok NB).keep rb (cells_below (hB.trans (hC1.mono hB.size))))).mono ?_
  rintro e u2 ⟨rfl,hb2⟩
  rw [HV2.out]
  have hC2:Below wb.heap.size wb u2:=hC1.trans (hb2.mono hC1.size)
  go_wp2_with fail
  refine hK.out _ _ (HSS.out _ hC2) (fun hH=>?_)
  clear hK K
  try simp only [putS]
  refine tka 7 25 hH ?_;refine tka 8 26 hH ?_;refine tka 9 27 hH ?_;refine tka 10 28 hH ?_;simp only [putS]
  refine tka 11 29 hH ?_;simp only [putS]
  refine rd 12 (some 30) fun K hK=>?_
  clear hH
  go_simp
  refine(sFullMask_c _ q _ ((rQuery_ok NB).keep rq (cells_below (hB.trans (hC2.mono hB.size))))).mono ?_
  rintro e u3 ⟨rfl,hb3⟩
  rw [HF.out]
  have hC3:Below wb.heap.size wb u3:=hC2.trans (hb3.mono hC2.size)
  go_wp2_with fail
  refine hK.out _ _ (HSS.out _ hC3) (fun hH=>?_)
  clear hK K
  try simp only [putS]
  refine rd 13 (some 31) fun K hK=>?_
  clear hH
  go_simp
  refine(sIsConnected_c _ q F _ ((rQuery_ok NB).keep rq (cells_below (hB.trans (hC3.mono hB.size))))).mono ?_
  rintro e u4 ⟨rfl,hb4⟩
  rw [HV3.out]
  have hC4:Below wb.heap.size wb u4:=hC3.trans (hb4.mono hC3.size)
  go_wp2_with fail
  refine hK.out _ _ (HSS.out _ hC4) (fun hH=>?_)
  clear hK K
  try simp only [putS]
  refine tka 14 32 hH ?_;refine tka 15 33 hH ?_;refine tka 16 34 hH ?_;refine tka 17 35 hH ?_;simp only [putS]
  refine rd 18 (some 36) fun K hK=>?_
  clear hH
  go_simp
  refine(sIsValidBox_c _ x _ ((rBox_ok NB).keep rx (cells_below (hB.trans (hC4.mono hB.size))))).mono ?_
  rintro e u5 ⟨rfl,hb5⟩
  rw [HV4.out]
  have hC5:Below wb.heap.size wb u5:=hC4.trans (hb5.mono hC4.size)
  go_wp2_with fail
  refine hK.out _ _ (HSS.out _ hC5) (fun hH=>?_)
  clear hK K
  try simp only [putS]
  refine tka 19 37 hH ?_;refine tka 20 38 hH ?_;refine tka 21 39 hH ?_;refine tka 22 40 hH ?_;simp only [putS]
  refine tka 23 41 hH ?_;refine tka 24 42 hH ?_;refine tka 25 43 hH ?_;simp only [putS]
  refine rd 26 (some 44) fun K hK=>?_
  clear hH
  go_simp
  refine(sFullMask_c _ q _ ((rQuery_ok NB).keep rq (cells_below (hB.trans (hC5.mono hB.size))))).mono ?_
  rintro e u6 ⟨rfl,hb6⟩
  rw [HF.out]
  have hC6:Below wb.heap.size wb u6:=hC5.trans (hb6.mono hC5.size)
  go_wp2_with fail
  refine hK.out _ _ (HSS.out _ hC6) (fun hH=>?_)
  clear hK K
  try simp only [putS]
  refine tka 27 45 hH ?_;refine tka 28 46 hH ?_;refine tka 29 47 hH ?_;refine tka 30 48 hH ?_;simp only [putS]
  refine tka 31 49 hH ?_;refine tka 32 50 hH ?_;refine tka 33 51 hH ?_;refine tka 34 52 hH ?_;simp only [putS]
  refine tka 35 53 hH ?_;simp only [putS]
  refine rd 36 (some 54) fun K hK=>?_
  clear hH
  go_simp
  refine(K6.out _).mono ?_
  rintro e u7 ⟨rfl,rfl⟩
  go_wp2_with fail
  refine hK.out _ _ (HSS.out _ hC6) (fun hH=>?_)
  clear hK K
  try simp only [putS]
  refine tka 37 55 hH ?_;refine tka 38 56 hH ?_;refine tka 39 57 hH ?_;refine tks 40 58 hH ?_;simp only [putS]
  refine tks 41 59 hH ?_;refine tka 42 60 hH ?_;simp only [putS]
  refine wpAnyH_done (by kernel_rfl) ?_ _
  clear hH
  have HQ:Hid (nextRunV m q b x k i=(0,0,false)):=by show _=_;unfold nextRunV;rw [HN.out];simp
  go_wp2
  go_ret3
  exact⟨by rw [HQ.out];rfl,hB.trans (hC6.mono hB.size)⟩
 cases v7
 rotate_left
 ·refine hbg HSS.out (Below.refl _ _).drew (fun hH=>?_)
  refine ldm 0 18 (fun w h=>h.1) Tryz.underlying46 (by rw [lenm'];exact sizeModelT) hH ?_;simp only [putS]
  refine rd 1 (some 19) fun K hK=>?_
  clear hH
  go_simp
  refine(sIsAdmitted_c _ m _ ((rModel_ok NB).keep rm (cells_below (hB.trans (hd0.mono hB.size))))).mono ?_
  rintro e u1 ⟨rfl,hb1⟩
  rw [HV1.out]
  have hC1:Below wb.heap.size wb u1:=hd0.trans (hb1.mono hd0.size)
  go_wp2_with fail
  refine hK.out _ _ (HSS.out _ hC1) (fun hH=>?_)
  clear hK K
  try simp only [putS]
  refine tka 2 20 hH ?_;refine tka 3 21 hH ?_;refine tka 4 22 hH ?_;refine tka 5 23 hH ?_;simp only [putS]
  refine rd 6 (some 24) fun K hK=>?_
  clear hH
  go_simp
  refine(sIsValidBouquet_c _ q _ b _ ((rQuery_ok NB).keep rq (cells_below (hB.trans (hC1.mono hB.size)))) ((rBouquet_ok NB).keep rb (cells_below (hB.trans (hC1.mono hB.size))))).mono ?_
  rintro e u2 ⟨rfl,hb2⟩
  rw [HV2.out]
  have hC2:Below wb.heap.size wb u2:=hC1.trans (hb2.mono hC1.size)
  go_wp2_with fail
  refine hK.out _ _ (HSS.out _ hC2) (fun hH=>?_)
  clear hK K
  try simp only [putS]
  refine tka 7 25 hH ?_;refine tka 8 26 hH ?_;refine tka 9 27 hH ?_;refine tka 10 28 hH ?_;simp only [putS]
  refine tka 11 29 hH ?_;simp only [putS]
  refine rd 12 (some 30) fun K hK=>?_
  clear hH
  go_simp
  refine(sFullMask_c _ q _ ((rQuery_ok NB).keep rq (cells_below (hB.trans (hC2.mono hB.size))))).mono ?_
  rintro e u3 ⟨rfl,hb3⟩
  rw [HF.out]
  have hC3:Below wb.heap.size wb u3:=hC2.trans (hb3.mono hC2.size)
  go_wp2_with fail
  refine hK.out _ _ (HSS.out _ hC3) (fun hH=>?_)
  clear hK K
  try simp only [putS]
  refine rd 13 (some 31) fun K hK=>?_
  clear hH
  go_simp
  refine(sIsConnected_c _ q F _ ((rQuery_ok NB).keep rq (cells_below (hB.trans (hC3.mono hB.size))))).mono ?_
  rintro e u4 ⟨rfl,hb4⟩
  rw [HV3.out]
  have hC4:Below wb.heap.size wb u4:=hC3.trans (hb4.mono hC3.size)
  go_wp2_with fail
  refine hK.out _ _ (HSS.out _ hC4) (fun hH=>?_)
  clear hK K
  try simp only [putS]
  refine tka 14 32 hH ?_;refine tka 15 33 hH ?_;refine tka 16 34 hH ?_;refine tka 17 35 hH ?_;simp only [putS]
  refine rd 18 (some 36) fun K hK=>?_
  clear hH
  go_simp
  refine(sIsValidBox_c _ x _ ((rBox_ok NB).keep rx (cells_below (hB.trans (hC4.mono hB.size))))).mono ?_
  rintro e u5 ⟨rfl,hb5⟩
  rw [HV4.out]
  have hC5:Below wb.heap.size wb u5:=hC4.trans (hb5.mono hC4.size)
  go_wp2_with fail
  refine hK.out _ _ (HSS.out _ hC5) (fun hH=>?_)
  clear hK K
  try simp only [putS]
  refine tka 19 37 hH ?_;refine tka 20 38 hH ?_;refine tka 21 39 hH ?_;refine tka 22 40 hH ?_;simp only [putS]
  refine tka 23 41 hH ?_;refine tka 24 42 hH ?_;refine tka 25 43 hH ?_;simp only [putS]
  refine rd 26 (some 44) fun K hK=>?_
  clear hH
  go_simp
  refine(sFullMask_c _ q _ ((rQuery_ok NB).keep rq (cells_below (hB.trans (hC5.mono hB.size))))).mono ?_
  rintro e u6 ⟨rfl,hb6⟩
  rw [HF.out]
  have hC6:Below wb.heap.size wb u6:=hC5.trans (hb6.mono hC5.size)
  go_wp2_with fail
  refine hK.out _ _ (HSS.out _ hC6) (fun hH=>?_)
  clear hK K
  try simp only [putS]
  refine tka 27 45 hH ?_;refine tka 28 46 hH ?_;refine tka 29 47 hH ?_;refine tka 30 48 hH ?_;simp only [putS]
  refine tka 31 49 hH ?_;refine tka 32 50 hH ?_;refine tka 33 51 hH ?_;refine tka 34 52 hH ?_;simp only [putS]
  refine tka 35 53 hH ?_;simp only [putS]
  refine rd 36 (some 54) fun K hK=>?_
  clear hH
  go_simp
  refine(K6.out _).mono ?_
  rintro e u7 ⟨rfl,rfl⟩
  go_wp2_with fail
  refine hK.out _ _ (HSS.out _ hC6) (fun hH=>?_)
  clear hK K
  try simp only [putS]
  refine tka 37 55 hH ?_;refine tka 38 56 hH ?_;refine tka 39 57 hH ?_;refine tka 40 58 hH ?_;simp only [putS]
  refine tka 41 59 hH ?_;refine tka 42 60 hH ?_;simp only [putS]
  refine wpAnyH_done (by kernel_rfl) ?_ _
  clear hH
  have HQ:Hid (nextRunV m q b x k i=(0,0,false)):=by show _=_;unfold nextRunV;rw [HN.out];simp
  go_wp2
  go_ret3
  exact⟨by rw [HQ.out];rfl,hB.trans (hC6.mono hB.size)⟩
 refine hbg HSS.out (Below.refl _ _).drew (fun hH=>?_)
 refine ldm 0 18 (fun w h=>h.1) Tryz.underlying46 (by rw [lenm'];exact sizeModelT) hH ?_;simp only [putS]
 refine rd 1 (some 19) fun K hK=>?_
 clear hH
 go_simp
 refine(sIsAdmitted_c _ m _ ((rModel_ok NB).keep rm (cells_below (hB.trans (hd0.mono hB.size))))).mono ?_
 rintro e u1 ⟨rfl,hb1⟩
 rw [HV1.out]
 have hC1:Below wb.heap.size wb u1:=hd0.trans (hb1.mono hd0.size)
 go_wp2_with fail
 refine hK.out _ _ (HSS.out _ hC1) (fun hH=>?_)
 clear hK K
 try simp only [putS]
 refine tka 2 20 hH ?_;refine tka 3 21 hH ?_;refine tka 4 22 hH ?_;refine tka 5 23 hH ?_;simp only [putS]
 refine rd 6 (some 24) fun K hK=>?_
 clear hH
 go_simp
 refine(sIsValidBouquet_c _ q _ b _ ((rQuery_ok NB).keep rq (cells_below (hB.trans (hC1.mono hB.size)))) ((rBouquet_ok NB).keep rb (cells_below (hB.trans (hC1.mono hB.size))))).mono ?_
 rintro e u2 ⟨rfl,hb2⟩
 rw [HV2.out]
 have hC2:Below wb.heap.size wb u2:=hC1.trans (hb2.mono hC1.size)
 go_wp2_with fail
 refine hK.out _ _ (HSS.out _ hC2) (fun hH=>?_)
 clear hK K
 try simp only [putS]
 refine tka 7 25 hH ?_;refine tka 8 26 hH ?_;refine tka 9 27 hH ?_;refine tka 10 28 hH ?_;simp only [putS]
 refine tka 11 29 hH ?_;simp only [putS]
 refine rd 12 (some 30) fun K hK=>?_
 clear hH
 go_simp
 refine(sFullMask_c _ q _ ((rQuery_ok NB).keep rq (cells_below (hB.trans (hC2.mono hB.size))))).mono ?_
 rintro e u3 ⟨rfl,hb3⟩
 rw [HF.out]
 have hC3:Below wb.heap.size wb u3:=hC2.trans (hb3.mono hC2.size)
 go_wp2_with fail
 refine hK.out _ _ (HSS.out _ hC3) (fun hH=>?_)
 clear hK K
 try simp only [putS]
 refine rd 13 (some 31) fun K hK=>?_
 clear hH
 go_simp
 refine(sIsConnected_c _ q F _ ((rQuery_ok NB).keep rq (cells_below (hB.trans (hC3.mono hB.size))))).mono ?_
 rintro e u4 ⟨rfl,hb4⟩
 rw [HV3.out]
 have hC4:Below wb.heap.size wb u4:=hC3.trans (hb4.mono hC3.size)
 go_wp2_with fail
 refine hK.out _ _ (HSS.out _ hC4) (fun hH=>?_)
 clear hK K
 try simp only [putS]
 refine tka 14 32 hH ?_;refine tka 15 33 hH ?_;refine tka 16 34 hH ?_;refine tka 17 35 hH ?_;simp only [putS]
 refine rd 18 (some 36) fun K hK=>?_
 clear hH
 go_simp
 refine(sIsValidBox_c _ x _ ((rBox_ok NB).keep rx (cells_below (hB.trans (hC4.mono hB.size))))).mono ?_
 rintro e u5 ⟨rfl,hb5⟩
 rw [HV4.out]
 have hC5:Below wb.heap.size wb u5:=hC4.trans (hb5.mono hC4.size)
 go_wp2_with fail
 refine hK.out _ _ (HSS.out _ hC5) (fun hH=>?_)
 clear hK K
 try simp only [putS]
 refine tka 19 37 hH ?_;refine tka 20 38 hH ?_;refine tka 21 39 hH ?_;refine tka 22 40 hH ?_;simp only [putS]
 refine tka 23 41 hH ?_;refine tka 24 42 hH ?_;refine tka 25 43 hH ?_;simp only [putS]
 refine rd 26 (some 44) fun K hK=>?_
 clear hH
 go_simp
 refine(sFullMask_c _ q _ ((rQuery_ok NB).keep rq (cells_below (hB.trans (hC5.mono hB.size))))).mono ?_
 rintro e u6 ⟨rfl,hb6⟩
 rw [HF.out]
 have hC6:Below wb.heap.size wb u6:=hC5.trans (hb6.mono hC5.size)
 go_wp2_with fail
 refine hK.out _ _ (HSS.out _ hC6) (fun hH=>?_)
 clear hK K
 try simp only [putS]
 refine tka 27 45 hH ?_;refine tka 28 46 hH ?_;refine tka 29 47 hH ?_;refine tka 30 48 hH ?_;simp only [putS]
 refine tka 31 49 hH ?_;refine tka 32 50 hH ?_;refine tka 33 51 hH ?_;refine tka 34 52 hH ?_;simp only [putS]
 refine tka 35 53 hH ?_;simp only [putS]
 refine rd 36 (some 54) fun K hK=>?_
 clear hH
 go_simp
 refine(K6.out _).mono ?_
 rintro e u7 ⟨rfl,rfl⟩
 go_wp2_with fail
 refine hK.out _ _ (HSS.out _ hC6) (fun hH=>?_)
 clear hK K
 try simp only [putS]
 refine tka 37 55 hH ?_;refine tka 38 56 hH ?_;refine tka 39 57 hH ?_;refine tka 40 58 hH ?_;simp only [putS]
 refine tka 41 59 hH ?_;refine tka 42 60 hH ?_;simp only [putS]
 refine wpAnyH_done (by kernel_rfl) ?_ _
 clear hH
 have HQ:Hid (nextRunV m q b x k i=nextR m q b x.fLow k.toNat i.toNat):=by show _=_;unfold nextRunV;rw [HN.out];rfl
 have hkr:=inR_t.1 HV6.out
 have hi0:0<=i:=by have:=HV7.out;simp at this;exact this
 have HI0:=Lib.hid hi0
 have HKN:Hid (k<=b.fContours.length):=by show _<=_;have hl:=(vbq_parts HV2.out).2.2.2.2.2;have:=HBL.out;omega
 clear hi0 HSS hd0
 replace hB:=hB.trans (hC6.mono hB.size)
 replace bxm:=bxm.below hC6
 replace bxq:=bxq.below hC6
 replace bxb:=bxb.below hC6
 replace bxx:=bxx.below hC6
 clear hC6
 have kq_0:=bxq 0 _ rfl
 have kq_1:=bxq 1 _ rfl
 have kb_0:=bxb 0 _ rfl
 have kb_1:=bxb 1 _ rfl
 have kb_2:=bxb 2 _ rfl
 have kb_3:=bxb 3 _ rfl
 have kb_4:=bxb 4 _ rfl
 have kb_5:=bxb 5 _ rfl
 have kb_6:=bxb 6 _ rfl
 have kb_7:=bxb 7 _ rfl
 have kx_0:=bxx 0 _ rfl
 have kx_1:=bxx 1 _ rfl
 go_wp2_with (first|(refine wpList_load_mid rfl 46 _ rfl w.heap.size 0 rfl csm _ bxm.range Tryz.underlying46 rfl (by rw [lenm'];exact sizeModel) ?_))
 refine(sNext_c _ m _ q _ b _ x k i _ ((rModel_ok NB).keep rm (cells_below hB)) ((rQuery_ok NB).keep rq (cells_below hB)) ((rBouquet_ok NB).keep rb (cells_below hB)) ((rBox_ok NB).keep rx (cells_below hB)) HV2.out hkr.1 HKN.out HI0.out HII.out).mono ?_
 rintro e w1 ⟨rfl,hb1⟩
 replace hB:=hB.trans (hb1.mono hB.size)
 replace bxm:=bxm.below hb1
 replace bxq:=bxq.below hb1
 replace bxb:=bxb.below hb1
 replace bxx:=bxx.below hb1
 clear hb1 kq_0 kq_1 kb_0 kb_1 kb_2 kb_3 kb_4 kb_5 kb_6 kb_7 kx_0 kx_1
 obtain⟨R,hR⟩:∃ R,nextR m q b x.fLow k.toNat i.toNat=R:=⟨_,rfl⟩
 rw [hR]
 have HR:=Lib.hid hR
 clear hR
 go_wp2
 go_ret3
 exact⟨by rw [HQ.out,HR.out];rfl,hB⟩
end Go.Proofs.YtnlcfkpcmfljeaaGreat
