/-
  Act
-/
import Derived.Test.YtpodldagcnfhlaaGreatKeep
import Derived.Test.YtpodldagcnfhlaaGreatOper
import Derived.Test.YtpodldagcnfhlaaGreatRsz
namespace Go.Proofs.YtpodldagcnfhlaaGreat
open Go.RowKit
set_option linter.unusedVariables false
set_option linter.unusedSimpArgs false
section
variable {m:ModelD} {x:PlanStepD} {y:StepInfoD} {n:List Int} {k i j:Nat} {s a b:Int}
theorem act_scan (hl:y.fLeft<0) (hr:y.fRight<0) (hs:nAt n k=s):actCost m x y n k=opCostV (opOf m x.fKind) (roundUp s) 0 (roundUp s):=by unfold actCost actL actR;rw [if_pos hl,if_pos hr,hs]
theorem act_sort (hl:y.fLeft=i) (hr:y.fRight<0) (hs:nAt n k=s) (ha:nAt n i=a):actCost m x y n k=opCostV (opOf m x.fKind) (roundUp a) 0 (roundUp s):=by unfold actCost actL actR;rw [if_neg (by omega),if_pos hr,hs,hl,ha]
theorem act_join (hl:y.fLeft=i) (hr:y.fRight=j) (hs:nAt n k=s) (ha:nAt n i=a) (hb:nAt n j=b):actCost m x y n k=opCostV (opOf m x.fKind) (roundUp a) (roundUp b) (roundUp s):=by unfold actCost actL actR;rw [if_neg (by omega),if_neg (by omega),hs,hl,hr,ha,hb]
theorem nAt_some (h:n[k]?=some s):nAt n k=s:=by unfold nAt;rw [Int.toNat_natCast,h];rfl
end
set_option maxRecDepth 100000 in
set_option maxHeartbeats 1600000 in
theorem iActual_c {AI AL:Option Addr}{nI cI nL cL k:Nat}{li:List StepInfoD}{L:List StreamD}(w:World) (hI:RS NB (rStepInfo NB) w AI nI cI li) (hL:RS NB (rStream NB) w AL nL cL L) {y:StepInfoD}(hy:li[k]?=some y) (hk:k<nL) (hsz:∀ s∈L,s.fRows.length<=4096) (hl:y.fLeft<nL) (hr:y.fRight<nL) (hlr:y.fLeft<0->y.fRight<0) :
  Calls Tryz.prog 106 #[.slice AI nI cI,.slice AL nL cL,.int .i64 (k:Int)] w fun e w'=>e=.returned (.tuple #[.int .i64 (actL y (sizesL L) k),.int .i64 (actR y (sizesL L)),.int .i64 (roundUp (nAt (sizesL L) k))])/\w'=w:=by
 have hkI:k<nI:=by have:=hI.len;have:=lt_of_at hy;omega
 obtain⟨b1,o1,y',rfl,d0,d1,d2,d3,_,_,i2,i3,hy'⟩:=hI.eStepInfo hkI
 obtain rfl:y'=y:=by have:=hy'.out;rw [hy]at this;injection this with this;exact this.symm
 obtain⟨b2,o2,s0,A1,n1,c1,A2,n2,c2,rfl,l0,l1,hr0,hs0⟩:=hL.eStream hk
 obtain⟨e1,_⟩:=stream_len hr0
 have hN:nAt (sizesL L) k=n2:=by rw [nAt_sizes hs0.out,e1]
 have hb2:n2<=4096:=by rw [<- e1];exact hsz _ (mem_of_at hs0.out)
 have HN:=Lib.hid hN
 clear d0 d1 l0 hr0 hs0 e1 hy hy' hN
 by_cases hl0:y'.fLeft<0
 ·have hr0:=hlr hl0
  have g1:decide (0<=y'.fLeft)=false:=decide_eq_false (by omega)
  have g2:decide (0<=y'.fRight)=false:=decide_eq_false (by omega)
  have h1:¬ 0<=y'.fLeft:=by omega
  have h2:¬ 0<=y'.fRight:=by omega
  have HL:Hid (actL y' (sizesL L) k=roundUp n2):=by show _=_;unfold actL;rw [if_pos hl0,HN.out]
  have HR:Hid (actR y' (sizesL L)=0):=by show _=_;unfold actR;rw [if_pos hr0]
  clear hI hL hlr hl0 hr0
  go_enter Tryz.func106,Tryz.ntmps106
  go_wp2_with (go_at_call 171;refine(iRoundUpSize_q _ _ (by omega) (by omega)).mono ?_;rintro e w' ⟨rfl,hww⟩;replace hww:=hww.symm;subst hww)
  go_ret3
  exact⟨by rw [HL.out,HR.out,HN.out];rfl,rfl⟩
 clear hlr
 obtain⟨a,ha⟩:∃ a:Nat,y'.fLeft=a:=⟨y'.fLeft.toNat,by omega⟩
 obtain⟨b2',o2',s1,B1,m1,q1,B2,m2,q2,he,p0,p1,hr1,hs1⟩:=hL.eStream (k:=a) (by omega)
 injection he with he;injection he with he1 he2;subst he1;subst he2
 obtain⟨e1,_⟩:=stream_len hr1
 have HA:Hid (nAt (sizesL L) a=m2):=by show _=_;rw [nAt_sizes hs1.out,e1]
 have hm2:m2<=4096:=by rw [<- e1];exact hsz _ (mem_of_at hs1.out)
 have haL:a<nL:=by omega
 have HL:Hid (actL y' (sizesL L) k=roundUp m2):=by show _=_;unfold actL;rw [if_neg hl0,ha,HA.out]
 rw [ha]at d2
 clear p0 hr1 hs1 e1 ha hl0 hl
 have g1:decide ((0:Int)<=(a:Int))=true:=decide_eq_true (by omega)
 by_cases hr0:y'.fRight<0
 ·have g2:decide (0<=y'.fRight)=false:=decide_eq_false (by omega)
  have h2:¬ 0<=y'.fRight:=by omega
  have HR:Hid (actR y' (sizesL L)=0):=by show _=_;unfold actR;rw [if_pos hr0]
  clear hI hL hr0
  go_enter Tryz.func106,Tryz.ntmps106
  go_wp2_with (go_at_call 171;refine(iRoundUpSize_q _ _ (by omega) (by omega)).mono ?_;rintro e w' ⟨rfl,hww⟩;replace hww:=hww.symm;subst hww)
  go_ret3
  exact⟨by rw [HL.out,HR.out,HN.out];rfl,rfl⟩
 obtain⟨j,hj⟩:∃ a:Nat,y'.fRight=a:=⟨y'.fRight.toNat,by omega⟩
 obtain⟨b2',o2',s2,D1,v1,u1,D2,v2,u2,he,t0,t1,hr2,hs2⟩:=hL.eStream (k:=j) (by omega)
 injection he with he;injection he with he1 he2;subst he1;subst he2
 obtain⟨e1,_⟩:=stream_len hr2
 have HB:Hid (nAt (sizesL L) j=v2):=by show _=_;rw [nAt_sizes hs2.out,e1]
 have hv2:v2<=4096:=by rw [<- e1];exact hsz _ (mem_of_at hs2.out)
 have hjL:j<nL:=by omega
 have HR:Hid (actR y' (sizesL L)=roundUp v2):=by show _=_;unfold actR;rw [if_neg hr0,hj,HB.out]
 rw [hj]at d3
 clear t0 hr2 hs2 e1 hj hr0 hr hI hL
 have g2:decide ((0:Int)<=(j:Int))=true:=decide_eq_true (by omega)
 go_enter Tryz.func106,Tryz.ntmps106
 go_wp2_with (go_at_call 171;refine(iRoundUpSize_q _ _ (by omega) (by omega)).mono ?_;rintro e w' ⟨rfl,hww⟩;replace hww:=hww.symm;subst hww)
 go_ret3
 exact⟨by rw [HL.out,HR.out,HN.out];rfl,rfl⟩
set_option maxRecDepth 100000 in
set_option maxHeartbeats 1600000 in
theorem iActualStep_c (csm:List Value) (m:ModelD) (csp:List Value) (p:PlanD) (Ali:Option Addr) (nli cli:Nat) (li:List StepInfoD) (AL:Option Addr) (nL cL:Nat) (L:List StreamD) (i:Int) (w:World) (hm:(rModel NB).rep w csm m) (hp:(rPlan NB).rep w csp p) (hli:RS NB (rStepInfo NB) w Ali nli cli li) (hL:RS NB (rStream NB) w AL nL cL L) {x:PlanStepD}{y:StepInfoD}{k:Nat}(hik:i=k) (hx:p.fSteps[k]?=some x) (hy:li[k]?=some y) (hkd:1<=x.fKind/\x.fKind<=5) (hk:k<nL) (hsz:∀ s∈L,s.fRows.length<=4096) (hl:y.fLeft<nL) (hr:y.fRight<nL) (hlr:y.fLeft<0->y.fRight<0) :
  Calls Tryz.prog 98 #[.agg csm.toArray,.agg csp.toArray,.slice Ali nli cli,.slice AL nL cL,.int .i64 i] w fun e w'=>e=.returned (.int .i64 (actCost m x y (sizesL L) k))/\Below w.heap.size w w':=by
 have rm:=hm
 have lenm:=(rModel_ok NB).len hm
 clear hm
 have rp:=hp
 obtain⟨ApSteps,npSteps,cpSteps,rfl,hpSteps⟩:=rPlan_rep.1 hp
 clear hp
 have hB:Below w.heap.size w w:=Below.refl _ _
 have hAm:=(Below.refl (World.heap (w)).size (w)).alloc (Nat.le_refl _) (.cells csm.toArray 86)
 replace hB:=hB.trans (hAm.mono hB.size)
 have bxm:=Bx.new (w) csm 86
 clear hAm
 have hAp:=(Below.refl (World.heap ((w).alloc (.cells csm.toArray 86))).size ((w).alloc (.cells csm.toArray 86))).alloc (Nat.le_refl _) (.cells #[.slice ApSteps npSteps cpSteps] 62)
 replace hB:=hB.trans (hAp.mono hB.size)
 replace bxm:=bxm.below hAp
 have bxp:=Bx.new ((w).alloc (.cells csm.toArray 86)) [.slice ApSteps npSteps cpSteps] 62
 simp only [World.size_alloc]at bxp
 clear hAp
 subst hik
 have lenm':csm.length=30:=lenm
 clear lenm
 have hkp:k<npSteps:=by have:=hpSteps.len;have:=lt_of_at hx;omega
 obtain⟨b,off,x',rfl,hc0,_,_,_,_,_,hx'⟩:=hpSteps.ePlanStep hkp
 obtain rfl:x'=x:=by have:=hx'.out;rw [hx]at this;injection this with this;exact this.symm
 obtain⟨kk,hkk⟩:∃ kk:Nat,x'.fKind=(kk:Int)+1:=⟨(x'.fKind - 1).toNat,by omega⟩
 have hkk5:kk<5:=by omega
 obtain⟨A,n0,c,hOL,hOr⟩:=modelAtL rm hkk5
 obtain⟨v,hv⟩:∃ v,v=actCost m x' y (sizesL L) k:=⟨_,rfl⟩
 have hv2:v=opCostV (opOf m ((kk:Int)+1)) (actL y (sizesL L) k) (actR y (sizesL L)) (roundUp (nAt (sizesL L) k)):=by rw [hv];unfold actCost;rw [hkk]
 rw [<- hv]
 clear hv
 obtain⟨o,ho⟩:∃ o,o=opOf m ((kk:Int)+1):=⟨_,rfl⟩
 rw [<- ho]at hOL hOr hv2
 clear ho
 obtain⟨a1,ha1⟩:∃ a,a=actL y (sizesL L) k:=⟨_,rfl⟩
 obtain⟨a2,ha2⟩:∃ a,a=actR y (sizesL L):=⟨_,rfl⟩
 obtain⟨a3,ha3⟩:∃ a,a=roundUp (nAt (sizesL L) k):=⟨_,rfl⟩
 have KA:Hid (∀ W,Below w.heap.size w W->Calls Tryz.prog 106 #[.slice Ali nli cli,.slice AL nL cL,.int .i64 (k:Int)] W fun e w'=>e=.returned (.tuple #[.int .i64 a1,.int .i64 a2,.int .i64 a3])/\w'=W):=by
  show ∀ W,_->_
  intro W hW
  rw [ha1,ha2,ha3]
  exact iActual_c W (hli.below (rStepInfo_ok NB) hW) (hL.below (rStream_ok NB) hW) hy hk hsz hl hr hlr
 rw [<- ha1,<- ha2,<- ha3]at hv2
 have HV:=Lib.hid hv2
 clear hv2 ha1 ha2 ha3 hx' hx hkd hsz hlr hl hr
 rw [hkk]at hc0
 have mj:IntKind.i64.wrap (kk:Int)=(kk:Int):=IntWalk.i64_in _ (by omega)
 have mj2:IntKind.i64.wrap ((kk:Int)+1 - 1)=(kk:Int):=by rw [IntWalk.i64_in _ (by omega)];omega
 have hkkI:(kk:Int)<5:=by omega
 clear hkk
 go_enter Tryz.func98,Tryz.ntmps98
 go_upto_region 1 with fail
 obtain⟨wb,hwb⟩:∃ W,W=(w.alloc (.cells csm.toArray 86)).alloc (.cells #[.slice (some ⟨b,off,none⟩) npSteps cpSteps] 62):=⟨_,rfl⟩
 rw [<- hwb]at hB bxm bxp ⊢
 clear hwb
 replace hc0:=cells_below hB _ _ hc0
 have hOP:=(rOperator_ok NB).keep hOr (cells_below hB)
 go_upto_region 2 with (go_at_call 106;refine(KA.out _ hB).mono ?_;rintro e w' ⟨rfl,hww⟩;replace hww:=hww.symm;subst hww)
 have HSS:Hid (∀ w',Below wb.heap.size wb w'->(w'.cell? ⟨w.heap.size+1,0,none⟩=some (.slice (some ⟨b,off,none⟩) npSteps cpSteps)/\w'.cell? ⟨b,off+k*3,none⟩=some (.int .i64 ((kk:Int)+1))/\w'.cell? ⟨w.heap.size,kk*6,none⟩=some (.int .i64 o.fFixed)/\w'.cell? ⟨w.heap.size,kk*6+1,none⟩=some (.int .i64 o.fPerLeft)/\w'.cell? ⟨w.heap.size,kk*6+2,none⟩=some (.int .i64 o.fPerRight)/\w'.cell? ⟨w.heap.size,kk*6+3,none⟩=some (.int .i64 o.fPerOutput)/\w'.cell? ⟨w.heap.size,kk*6+4,none⟩=some (.int .i64 o.fPerPair)/\w'.cell? ⟨w.heap.size,kk*6+5,none⟩=some (.slice A n0 c))):=by
  show ∀ w',_->_
  intro w' hb
  have bm:=bxm.below hb
  exact⟨(bxp.below hb) 0 _ rfl,cells_below hb _ _ hc0,bm _ _ hOL.c0,bm _ _ hOL.c1,bm _ _ hOL.c2,bm _ _ hOL.c3,bm _ _ hOL.c4,bm _ _ hOL.c5⟩
 have hd0:=(Below.refl wb.heap.size wb).drew
 have K1:Hid (∀ W,Below wb.heap.size wb W->Calls Tryz.prog 165 #[.agg #[.int .i64 o.fFixed,.int .i64 o.fPerLeft,.int .i64 o.fPerRight,.int .i64 o.fPerOutput,.int .i64 o.fPerPair,.slice A n0 c],.int .i64 a1,.int .i64 a2,.int .i64 a3] W fun e w'=>e=.returned (.int .i64 v)/\Below W.heap.size W w'):=by
  show ∀ W,_->_
  intro W hW
  rw [HV.out]
  exact iOperatorCost_c _ o a1 a2 a3 W ((rOperator_ok NB).keep hOP (cells_below hW))
 clear hOL hOr
 refine hbg HSS.out hd0 (fun hHeld=>?_)
 refine tka 1 23 hHeld ?_;simp only [putS]
 refine tka 2 24 hHeld ?_;simp only [putS]
 refine tka 3 25 hHeld ?_;simp only [putS]
 refine tka 4 26 hHeld ?_;simp only [putS]
 refine tka 5 27 hHeld ?_;simp only [putS]
 refine tka 6 28 hHeld ?_;simp only [putS]
 refine tka 7 29 hHeld ?_;simp only [putS]
 refine tka 12 34 hHeld ?_;simp only [putS]
 refine tka 13 35 hHeld ?_;simp only [putS]
 refine tka 14 36 hHeld ?_;simp only [putS]
 refine rd 0 (some 22) fun K hK=>?_
 clear hHeld
 go_simp
 refine(iOperators_c _ 0 _).mono ?_
 rintro e w4 ⟨rfl,bxp4,hb4⟩
 have hC4:Below wb.heap.size wb w4:=(hd0.trans (hb4.mono (by simp)))
 have kp4:w4.cell? ⟨wb.heap.size,kk,none⟩=some (.pointer (some ⟨w.heap.size,kk*6,none⟩)):=ptr_at6 bxp4 hkk5
 go_wp2_with fail
 refine hK.out _ _ (HSS.out _ hC4) (fun hHeld=>?_)
 clear hK K
 try simp only [putS]
 refine tka 8 30 hHeld ?_;simp only [putS]
 refine rd 9 (some 31) fun K hK=>?_
 clear hHeld
 go_simp
 refine hK.out _ _ (HSS.out _ hC4) (fun hHeld=>?_)
 clear hK K
 try simp only [putS]
 refine tka 10 32 hHeld ?_;simp only [putS]
 refine tka 11 33 hHeld ?_;simp only [putS]
 refine rd 15 (some 37) fun K hK=>?_
 clear hHeld
 go_simp
 refine(K1.out _ hC4).mono ?_
 rintro e w5 ⟨rfl,hb5⟩
 have hC5:=hC4.trans (hb5.mono hC4.size)
 go_wp2_with fail
 refine hK.out _ _ (HSS.out _ hC5) (fun hHeld=>?_)
 clear hK K
 try simp only [putS]
 refine tka 16 10 hHeld ?_;simp only [putS]
 refine wpAnyH_done (by kernel_rfl) ?_ _
 clear hHeld
 clear HSS K1
 go_wp2
 go_ret
 exact⟨rfl,hB.trans (hC5.mono hB.size)⟩
/-- the operator in its box g -/
structure LcW (wb W:World) (g:Nat) (o:OperatorD) (A:Option Addr) (n0 c:Nat):Prop where
 be:Below wb.heap.size wb W
 bx:Bx W g [.int .i64 o.fFixed,.int .i64 o.fPerLeft,.int .i64 o.fPerRight,.int .i64 o.fPerOutput,.int .i64 o.fPerPair,.slice A n0 c]
section
variable {wb w4:World} {g:Nat} {o:OperatorD} {A:Option Addr} {n0 c:Nat}
theorem lc_new (hC:Below wb.heap.size wb w4):∃ W,W=w4.alloc (.cells #[.int .i64 o.fFixed,.int .i64 o.fPerLeft,.int .i64 o.fPerRight,.int .i64 o.fPerOutput,.int .i64 o.fPerPair,.slice A n0 c] 84)/\LcW wb W w4.heap.size o A n0 c:=⟨_,rfl,hC.alloc hC.size _,Bx.new _ _ _⟩
theorem lc_set {v0 v1 v2 v3 v4 v5:Value}(hC:Below wb.heap.size wb w4) (hk:Bk w4 g 84 [v0,v1,v2,v3,v4,v5]) (hg:wb.heap.size<=g) :
  ∃ W,W=(((((w4.setCell ⟨g,0,none⟩ (.int .i64 o.fFixed)).setCell ⟨g,1,none⟩ (.int .i64 o.fPerLeft)).setCell ⟨g,2,none⟩ (.int .i64 o.fPerRight)).setCell ⟨g,3,none⟩ (.int .i64 o.fPerOutput)).setCell ⟨g,4,none⟩ (.int .i64 o.fPerPair)).setCell ⟨g,5,none⟩ (.slice A n0 c)/\LcW wb W g o A n0 c :=
 ⟨_,rfl,(((((hC.setCell (p:=⟨g,0,none⟩) hg _).setCell (p:=⟨g,1,none⟩) hg _).setCell (p:=⟨g,2,none⟩) hg _).setCell (p:=⟨g,3,none⟩) hg _).setCell (p:=⟨g,4,none⟩) hg _).setCell (p:=⟨g,5,none⟩) hg _,((((((hk.set 0 _).set 1 _).set 2 _).set 3 _).set 4 _).set 5 _).bx⟩
end
set_option maxRecDepth 100000 in
set_option maxHeartbeats 1600000 in
theorem sL28Cost_c (csm:List Value) (m:ModelD) (csp:List Value) (p:PlanD) (Ali:Option Addr) (nli cli:Nat) (li:List StepInfoD) (An:Option Addr) (nn cn:Nat) (n:List Int) (i:Int) (w:World) (hm:(rModel NB).rep w csm m) (hp:(rPlan NB).rep w csp p) (hli:RS NB (rStepInfo NB) w Ali nli cli li) (hn:RS NB rInt w An nn cn n) {x:PlanStepD}{y:StepInfoD}{k:Nat}(hik:i=k) (hx:p.fSteps[k]?=some x) (hy:li[k]?=some y) (hk:k<nn) (hsz:∀ z∈n,0<=z/\z<=4096) (hl:y.fLeft<nn) (hr:y.fRight<nn) (hlr:y.fLeft<0->y.fRight<0) :
  Calls Tryz.prog 96 #[.agg csm.toArray,.agg csp.toArray,.slice Ali nli cli,.slice An nn cn,.int .i64 i] w fun e w'=>e=.returned (.int .i64 (actCost m x y n k))/\Below w.heap.size w w':=by
 have rm:=hm
 have lenm:=(rModel_ok NB).len hm
 clear hm
 have rp:=hp
 obtain⟨ApSteps,npSteps,cpSteps,rfl,hpSteps⟩:=rPlan_rep.1 hp
 clear hp
 have hB:Below w.heap.size w w:=Below.refl _ _
 have hAm:=(Below.refl (World.heap (w)).size (w)).alloc (Nat.le_refl _) (.cells csm.toArray 86)
 replace hB:=hB.trans (hAm.mono hB.size)
 have bxm:=Bx.new (w) csm 86
 clear hAm
 have hAp:=(Below.refl (World.heap ((w).alloc (.cells csm.toArray 86))).size ((w).alloc (.cells csm.toArray 86))).alloc (Nat.le_refl _) (.cells #[.slice ApSteps npSteps cpSteps] 62)
 replace hB:=hB.trans (hAp.mono hB.size)
 replace bxm:=bxm.below hAp
 have bxp:=Bx.new ((w).alloc (.cells csm.toArray 86)) [.slice ApSteps npSteps cpSteps] 62
 simp only [World.size_alloc]at bxp
 clear hAp
 subst hik
 have lenm':csm.length=30:=lenm
 clear lenm
 have hkp:k<npSteps:=by have:=hpSteps.len;have:=lt_of_at hx;omega
 have hkI:k<nli:=by have:=hli.len;have:=lt_of_at hy;omega
 obtain⟨b,off,x',rfl,hc0,_,_,_,_,_,hx'⟩:=hpSteps.ePlanStep hkp
 obtain rfl:x'=x:=by have:=hx'.out;rw [hx]at this;injection this with this;exact this.symm
 obtain⟨b1,o1,y',rfl,_,_,d2,d3,_,_,i2,i3,hy'⟩:=hli.eStepInfo hkI
 obtain rfl:y'=y:=by have:=hy'.out;rw [hy]at this;injection this with this;exact this.symm
 obtain⟨bN,oN,s,rfl,l0,hIs,hs⟩:=hn.ati hk
 have hs4:=hsz _ (mem_of_at hs.out)
 have HNS:=Lib.hid (nAt_some hs.out)
 obtain⟨kk,hkk5,hkk,hop⟩:=opKind x'.fKind
 obtain⟨A,n0,c,hOL,hOr⟩:=modelAtL rm hkk5
 rw [hop]at hOL hOr
 obtain⟨o,ho⟩:∃ o,o=opOf m x'.fKind:=⟨_,rfl⟩
 rw [<- ho]at hOL hOr
 have HO:=Lib.hid ho
 have HKK:=Lib.hid hkk
 have HOL:=Lib.hid hOL
 have HX:=Lib.hid hx
 clear ho hop hx' hx hy hy' hs hkk hOL
 go_enter Tryz.func96,Tryz.ntmps96
 go_upto_region 1 with fail
 obtain⟨wb,hwb⟩:∃ W,W=(w.alloc (.cells csm.toArray 86)).alloc (.cells #[.slice (some ⟨b,off,none⟩) npSteps cpSteps] 62):=⟨_,rfl⟩
 rw [<- hwb]at hB bxm bxp ⊢
 clear hwb
 replace hc0:=cells_below hB _ _ hc0
 replace d2:=cells_below hB _ _ d2
 replace d3:=cells_below hB _ _ d3
 replace l0:=cells_below hB _ _ l0
 have hn2:=hn.below rInt_ok hB
 have hOP:=(rOperator_ok NB).keep hOr (cells_below hB)
 clear hOr
 have HSS:Hid (∀ w',Below wb.heap.size wb w'->(w'.rangeAt w.heap.size 0 csm/\w'.cell? ⟨w.heap.size+1,0,none⟩=some (.slice (some ⟨b,off,none⟩) npSteps cpSteps)/\w'.cell? ⟨b,off+k*3,none⟩=some (.int .i64 x'.fKind))):=by
  show ∀ w',_->_
  intro w' hb
  exact⟨(bxm.below hb).range,(bxp.below hb) 0 _ rfl,cells_below hb _ _ hc0⟩
 have hC0:=(Below.refl wb.heap.size wb).drew
 refine hbg HSS.out hC0 (fun hHeld=>?_)
 refine' wpAnyH_take (i:=0) (oi:=⟨some 12,_,_,_,_,_⟩) (v:=_) rfl (by kernel_rfl) (by kernel_rfl) (by kernel_rfl) (fun _ _ _ h=>h) (yieldsIf_load_mid (by rfl) _ _ rfl _ _ rfl _ _ (fun w h=>h.1) Tryz.underlying86 rfl (by rw [lenm'];exact sizeModel)) hHeld ?_
 simp only [putS]
 refine tka 1 13 hHeld ?_;simp only [putS]
 refine tka 2 14 hHeld ?_;simp only [putS]
 refine tka 3 15 hHeld ?_;simp only [putS]
 refine tka 4 16 hHeld ?_;simp only [putS]
 refine tka 5 17 hHeld ?_;simp only [putS]
 refine tka 6 18 hHeld ?_;simp only [putS]
 refine rd2 7 (some 19) 8 (some 11) (fun K hK=>?_) fun K hK=>?_
 clear hHeld
 go_simp
 refine(sModelAt_c x'.fKind _ HKK.out HOL.out).mono ?_
 rintro e w4 ⟨rfl,hb4⟩
 have hC1:=hC0.trans (hb4.mono hC0.size)
 go_wp2_with fail
 refine hK.out _ _ (HSS.out _ hC1) (fun hHeld=>?_)
 clear hK K
 try simp only [putS]
 have hC2:=hC1.alloc hC1.size (.cells #[.int .i64 0,.int .i64 0,.int .i64 0,.int .i64 0,.int .i64 0,.slice none 0 0] 84)
 refine rd 8 (some 11) fun K hK=>?_
 clear hHeld
 go_simp
 refine hK.out _ _ (HSS.out _ hC2) (fun hHeld=>?_)
 clear hK K
 try simp only [putS]
 have hC3:=hC1.alloc hC1.size (.cells #[.int .i64 o.fFixed,.int .i64 o.fPerLeft,.int .i64 o.fPerRight,.int .i64 o.fPerOutput,.int .i64 o.fPerPair,.slice A n0 c] 84)
 refine rd 9 none fun K hK=>?_
 clear hHeld
 go_simp
 refine hK.out _ _ (HSS.out _ hC3) (fun hHeld=>?_)
 clear hK K
 try simp only [putS]
 refine wpAnyH_done (by kernel_rfl) ?_ _
 clear hHeld
 clear HSS
 obtain⟨W,hW,LW⟩:=lc_new (o:=o) (A:=A) (n0:=n0) (c:=c) hC1
 obtain⟨g,hg⟩:∃ g,g=w4.heap.size:=⟨_,rfl⟩
 rw [<- hW]
 clear hW
 rw [<- hg]at LW ⊢
 clear hg
 refine Hid.out (?_:Hid _)
 rotate_left
 clear hHeld
 have hCz:=hC0.alloc hC0.size (.cells #[.int .i64 0,.int .i64 0,.int .i64 0,.int .i64 0,.int .i64 0,.slice none 0 0] 84)
 have kZ:=Bk.new wb.drew [.int .i64 0,.int .i64 0,.int .i64 0,.int .i64 0,.int .i64 0,.slice none 0 0] 84
 go_simp
 refine hK.out _ _ (HSS.out _ hCz) (fun hHeld=>?_)
 clear hK K
 try simp only [putS]
 refine rd 7 (some 19) fun K hK=>?_
 clear hHeld
 go_simp
 refine(sModelAt_c x'.fKind _ HKK.out HOL.out).mono ?_
 rintro e w4 ⟨rfl,hb4⟩
 have hC1:=hCz.trans (hb4.mono hCz.size)
 go_wp2_with fail
 refine hK.out _ _ (HSS.out _ hC1) (fun hHeld=>?_)
 clear hK K
 try simp only [putS]
 have kZ4:Bk w4 wb.heap.size 84 [.int .i64 0,.int .i64 0,.int .i64 0,.int .i64 0,.int .i64 0,.slice none 0 0]:=kZ.below hb4
 have f0:=kZ4.frozen 0
 have r0:=kZ4.bx 0 _ rfl
 have f1:=kZ4.frozen 1
 have r1:=kZ4.bx 1 _ rfl
 have f2:=kZ4.frozen 2
 have r2:=kZ4.bx 2 _ rfl
 have f3:=kZ4.frozen 3
 have r3:=kZ4.bx 3 _ rfl
 have f4:=kZ4.frozen 4
 have r4:=kZ4.bx 4 _ rfl
 have f5:=kZ4.frozen 5
 have r5:=kZ4.bx 5 _ rfl
 obtain⟨W,hW,LW⟩:=lc_set (o:=o) (A:=A) (n0:=n0) (c:=c) hC1 kZ4 (Nat.le_refl _)
 have hCW:=LW.be
 rw [hW]at hCW
 refine rd 9 none fun K hK=>?_
 clear hHeld
 go_simp
 refine hK.out _ _ (HSS.out _ hCW) (fun hHeld=>?_)
 clear hK K
 try simp only [putS]
 refine wpAnyH_done (by kernel_rfl) ?_ _
 clear hHeld
 clear HSS hCW f0 r0 f1 r1 f2 r2 f3 r3 f4 r4 f5 r5
 obtain⟨g,hg⟩:∃ g,g=wb.heap.size:=⟨_,rfl⟩
 rw [<- hW]
 clear hW
 rw [<- hg]at LW ⊢
 clear hg
 refine Hid.out (?_:Hid _)
 all_goals
  refine Lib.hid ?_
  obtain⟨hE,bxo⟩:=LW
  replace hB:=hB.trans (hE.mono hB.size)
  replace d2:=cells_below hE _ _ d2
  replace d3:=cells_below hE _ _ d3
  replace l0:=cells_below hE _ _ l0
  replace hn2:=hn2.below rInt_ok hE
  replace hOP:=(rOperator_ok NB).keep hOP (cells_below hE)
  have hd:=(Below.refl W.heap.size W).drew
  have KR:Hid (∀ (z:Int) V,0<=z->z<=4096->Calls Tryz.prog 102 #[.int .i64 z] V fun e w'=>e=.returned (.int .i64 (roundUp z))/\w'=V):=by
   show ∀ z V,_
   exact fun z V h1 h2=>sRoundUpSize_q z V h1 h2
  have KO:Hid (∀ (l r t:Int) V,Below W.heap.size W V->Calls Tryz.prog 163 #[.agg #[.int .i64 o.fFixed,.int .i64 o.fPerLeft,.int .i64 o.fPerRight,.int .i64 o.fPerOutput,.int .i64 o.fPerPair,.slice A n0 c],.int .i64 l,.int .i64 r,.int .i64 t] V fun e w'=>e=.returned (.int .i64 (opCostV o l r t))/\Below V.heap.size V w'):=by
   show ∀ l r t V,_->_
   exact fun l r t V hV=>sOpCost_c _ o l r t V ((rOperator_ok NB).keep hOP (cells_below hV))
  have hl4:=hsz
  clear hsz
  by_cases hl0:y'.fLeft<0
  ·have hr0:=hlr hl0
   have HS3:Hid (∀ w',Below W.heap.size W w'->(w'.cell? ⟨g,0,none⟩=some (.int .i64 o.fFixed)/\w'.cell? ⟨g,1,none⟩=some (.int .i64 o.fPerLeft)/\w'.cell? ⟨g,2,none⟩=some (.int .i64 o.fPerRight)/\w'.cell? ⟨g,3,none⟩=some (.int .i64 o.fPerOutput)/\w'.cell? ⟨g,4,none⟩=some (.int .i64 o.fPerPair)/\w'.cell? ⟨g,5,none⟩=some (.slice A n0 c)/\w'.cell? ⟨bN,oN+k,none⟩=some (.int .i64 s))):=by
    show ∀ w',_->_
    intro w' hb
    have bo:=bxo.below hb
    exact⟨bo 0 _ rfl,bo 1 _ rfl,bo 2 _ rfl,bo 3 _ rfl,bo 4 _ rfl,bo 5 _ rfl,cells_below hb _ _ l0⟩
   go_wp2
   refine hbg HS3.out hd (fun hHeld=>?_)
   refine tka 0 26 hHeld ?_;simp only [putS]
   refine tka 1 27 hHeld ?_;simp only [putS]
   refine tka 2 28 hHeld ?_;simp only [putS]
   refine tka 3 29 hHeld ?_;simp only [putS]
   refine tka 4 30 hHeld ?_;simp only [putS]
   refine tka 6 32 hHeld ?_;simp only [putS]
   refine tka 7 33 hHeld ?_;simp only [putS]
   refine tka 8 34 hHeld ?_;simp only [putS]
   refine tka 9 35 hHeld ?_;simp only [putS]
   refine rd 5 (some 31) fun K hK=>?_
   clear hHeld
   go_simp
   refine(KR.out s _ hs4.1 hs4.2).mono ?_
   rintro e w' ⟨rfl,hww⟩;replace hww:=hww.symm;subst hww
   go_wp2_with fail
   refine hK.out _ _ (HS3.out _ hd) (fun hHeld=>?_)
   clear hK K
   try simp only [putS]
   refine rd 10 (some 36) fun K hK=>?_
   clear hHeld
   go_simp
   refine(KR.out s _ hs4.1 hs4.2).mono ?_
   rintro e w' ⟨rfl,hww⟩;replace hww:=hww.symm;subst hww
   go_wp2_with fail
   refine hK.out _ _ (HS3.out _ hd) (fun hHeld=>?_)
   clear hK K
   try simp only [putS]
   refine rd 11 (some 37) fun K hK=>?_
   clear hHeld
   go_simp
   refine(KO.out (roundUp s) 0 (roundUp s) _ hd).mono ?_
   rintro e w5 ⟨rfl,hb5⟩
   have hC5:=hd.trans (hb5.mono hd.size)
   go_wp2_with fail
   refine hK.out _ _ (HS3.out _ hC5) (fun hHeld=>?_)
   clear hK K
   try simp only [putS]
   refine tka 12 10 hHeld ?_;simp only [putS]
   refine wpAnyH_done (by kernel_rfl) ?_ _
   clear hHeld
   clear HS3 KR KO
   go_wp2
   go_ret
   exact⟨ret_int (by rw [act_scan hl0 hr0 HNS.out,HO.out]),hB.trans (hC5.mono hB.size)⟩
  clear hlr
  obtain⟨a,ha⟩:∃ a:Nat,y'.fLeft=a:=⟨y'.fLeft.toNat,by omega⟩
  obtain⟨bN',oN',sa,he,l1,_,hsa⟩:=hn2.ati (k:=a) (by omega)
  injection he with he;injection he with he1 he2;subst he1;subst he2
  have hsa4:=hl4 _ (mem_of_at hsa.out)
  have HA:=Lib.hid (nAt_some hsa.out)
  have haN:a<nn:=by omega
  have d2':=d2
  rw [ha]at d2'
  have g1:¬ (a:Int)<0:=by omega
  clear hsa d2 hl0
  by_cases hr0:y'.fRight<0
  ·have HA2:=Lib.hid ha;clear ha
   have HS3:Hid (∀ w',Below W.heap.size W w'->(w'.cell? ⟨g,0,none⟩=some (.int .i64 o.fFixed)/\w'.cell? ⟨g,1,none⟩=some (.int .i64 o.fPerLeft)/\w'.cell? ⟨g,2,none⟩=some (.int .i64 o.fPerRight)/\w'.cell? ⟨g,3,none⟩=some (.int .i64 o.fPerOutput)/\w'.cell? ⟨g,4,none⟩=some (.int .i64 o.fPerPair)/\w'.cell? ⟨g,5,none⟩=some (.slice A n0 c)/\w'.cell? ⟨bN,oN+k,none⟩=some (.int .i64 s)/\w'.cell? ⟨b1,o1+k*4+2,none⟩=some (.int .i64 a)/\w'.cell? ⟨bN,oN+a,none⟩=some (.int .i64 sa))):=by
    show ∀ w',_->_
    intro w' hb
    have bo:=bxo.below hb
    exact⟨bo 0 _ rfl,bo 1 _ rfl,bo 2 _ rfl,bo 3 _ rfl,bo 4 _ rfl,bo 5 _ rfl,cells_below hb _ _ l0,cells_below hb _ _ d2',cells_below hb _ _ l1⟩
   go_wp2
   refine hbg HS3.out hd (fun hHeld=>?_)
   refine tka 0 44 hHeld ?_;simp only [putS]
   refine tka 1 45 hHeld ?_;simp only [putS]
   refine tka 2 46 hHeld ?_;simp only [putS]
   refine tka 3 47 hHeld ?_;simp only [putS]
   refine tka 4 48 hHeld ?_;simp only [putS]
   refine tka 5 49 hHeld ?_;simp only [putS]
   refine tka 6 50 hHeld ?_;simp only [putS]
   refine tka 7 51 hHeld ?_;simp only [putS]
   refine tka 8 52 hHeld ?_;simp only [putS]
   refine tka 10 54 hHeld ?_;simp only [putS]
   refine tka 11 55 hHeld ?_;simp only [putS]
   refine tka 12 56 hHeld ?_;simp only [putS]
   refine tka 13 57 hHeld ?_;simp only [putS]
   refine rd 9 (some 53) fun K hK=>?_
   clear hHeld
   go_simp
   refine(KR.out sa _ hsa4.1 hsa4.2).mono ?_
   rintro e w' ⟨rfl,hww⟩;replace hww:=hww.symm;subst hww
   go_wp2_with fail
   refine hK.out _ _ (HS3.out _ hd) (fun hHeld=>?_)
   clear hK K
   try simp only [putS]
   refine rd 14 (some 58) fun K hK=>?_
   clear hHeld
   go_simp
   refine(KR.out s _ hs4.1 hs4.2).mono ?_
   rintro e w' ⟨rfl,hww⟩;replace hww:=hww.symm;subst hww
   go_wp2_with fail
   refine hK.out _ _ (HS3.out _ hd) (fun hHeld=>?_)
   clear hK K
   try simp only [putS]
   refine rd 15 (some 59) fun K hK=>?_
   clear hHeld
   go_simp
   refine(KO.out (roundUp sa) 0 (roundUp s) _ hd).mono ?_
   rintro e w5 ⟨rfl,hb5⟩
   have hC5:=hd.trans (hb5.mono hd.size)
   go_wp2_with fail
   refine hK.out _ _ (HS3.out _ hC5) (fun hHeld=>?_)
   clear hK K
   try simp only [putS]
   refine tka 16 10 hHeld ?_;simp only [putS]
   refine wpAnyH_done (by kernel_rfl) ?_ _
   clear hHeld
   clear HS3 KR KO
   go_wp2
   go_ret
   exact⟨ret_int (by rw [act_sort HA2.out hr0 HNS.out HA.out,HO.out]),hB.trans (hC5.mono hB.size)⟩
  obtain⟨j,hj⟩:∃ a:Nat,y'.fRight=a:=⟨y'.fRight.toNat,by omega⟩
  obtain⟨bN',oN',sb,he,l2,_,hsb⟩:=hn2.ati (k:=j) (by omega)
  injection he with he;injection he with he1 he2;subst he1;subst he2
  have hsb4:=hl4 _ (mem_of_at hsb.out)
  have HB2:=Lib.hid (nAt_some hsb.out)
  have hjN:j<nn:=by omega
  have d3':=d3
  rw [hj]at d3'
  have g2:¬ (j:Int)<0:=by omega
  have HA2:=Lib.hid ha
  have HJ2:=Lib.hid hj
  clear hsb d3 hr0 ha hj
  have HS3:Hid (∀ w',Below W.heap.size W w'->(w'.cell? ⟨g,0,none⟩=some (.int .i64 o.fFixed)/\w'.cell? ⟨g,1,none⟩=some (.int .i64 o.fPerLeft)/\w'.cell? ⟨g,2,none⟩=some (.int .i64 o.fPerRight)/\w'.cell? ⟨g,3,none⟩=some (.int .i64 o.fPerOutput)/\w'.cell? ⟨g,4,none⟩=some (.int .i64 o.fPerPair)/\w'.cell? ⟨g,5,none⟩=some (.slice A n0 c)/\w'.cell? ⟨bN,oN+k,none⟩=some (.int .i64 s)/\w'.cell? ⟨b1,o1+k*4+2,none⟩=some (.int .i64 a)/\w'.cell? ⟨bN,oN+a,none⟩=some (.int .i64 sa)/\w'.cell? ⟨b1,o1+k*4+3,none⟩=some (.int .i64 j)/\w'.cell? ⟨bN,oN+j,none⟩=some (.int .i64 sb))):=by
   show ∀ w',_->_
   intro w' hb
   have bo:=bxo.below hb
   exact⟨bo 0 _ rfl,bo 1 _ rfl,bo 2 _ rfl,bo 3 _ rfl,bo 4 _ rfl,bo 5 _ rfl,cells_below hb _ _ l0,cells_below hb _ _ d2',cells_below hb _ _ l1,cells_below hb _ _ d3',cells_below hb _ _ l2⟩
  go_wp2
  refine hbg HS3.out hd (fun hHeld=>?_)
  refine tka 0 60 hHeld ?_;simp only [putS]
  refine tka 1 61 hHeld ?_;simp only [putS]
  refine tka 2 62 hHeld ?_;simp only [putS]
  refine tka 3 63 hHeld ?_;simp only [putS]
  refine tka 4 64 hHeld ?_;simp only [putS]
  refine tka 5 65 hHeld ?_;simp only [putS]
  refine tka 6 66 hHeld ?_;simp only [putS]
  refine tka 7 67 hHeld ?_;simp only [putS]
  refine tka 8 68 hHeld ?_;simp only [putS]
  refine tka 10 70 hHeld ?_;simp only [putS]
  refine tka 11 71 hHeld ?_;simp only [putS]
  refine tka 12 72 hHeld ?_;simp only [putS]
  refine tka 13 73 hHeld ?_;simp only [putS]
  refine tka 14 74 hHeld ?_;simp only [putS]
  refine tka 15 75 hHeld ?_;simp only [putS]
  refine tka 16 76 hHeld ?_;simp only [putS]
  refine tka 17 77 hHeld ?_;simp only [putS]
  refine tka 19 79 hHeld ?_;simp only [putS]
  refine tka 20 80 hHeld ?_;simp only [putS]
  refine tka 21 81 hHeld ?_;simp only [putS]
  refine tka 22 82 hHeld ?_;simp only [putS]
  refine rd 9 (some 69) fun K hK=>?_
  clear hHeld
  go_simp
  refine(KR.out sa _ hsa4.1 hsa4.2).mono ?_
  rintro e w' ⟨rfl,hww⟩;replace hww:=hww.symm;subst hww
  go_wp2_with fail
  refine hK.out _ _ (HS3.out _ hd) (fun hHeld=>?_)
  clear hK K
  try simp only [putS]
  refine rd 18 (some 78) fun K hK=>?_
  clear hHeld
  go_simp
  refine(KR.out sb _ hsb4.1 hsb4.2).mono ?_
  rintro e w' ⟨rfl,hww⟩;replace hww:=hww.symm;subst hww
  go_wp2_with fail
  refine hK.out _ _ (HS3.out _ hd) (fun hHeld=>?_)
  clear hK K
  try simp only [putS]
  refine rd 23 (some 83) fun K hK=>?_
  clear hHeld
  go_simp
  refine(KR.out s _ hs4.1 hs4.2).mono ?_
  rintro e w' ⟨rfl,hww⟩;replace hww:=hww.symm;subst hww
  go_wp2_with fail
  refine hK.out _ _ (HS3.out _ hd) (fun hHeld=>?_)
  clear hK K
  try simp only [putS]
  refine rd 24 (some 84) fun K hK=>?_
  clear hHeld
  go_simp
  refine(KO.out (roundUp sa) (roundUp sb) (roundUp s) _ hd).mono ?_
  rintro e w5 ⟨rfl,hb5⟩
  have hC5:=hd.trans (hb5.mono hd.size)
  go_wp2_with fail
  refine hK.out _ _ (HS3.out _ hC5) (fun hHeld=>?_)
  clear hK K
  try simp only [putS]
  refine tka 25 10 hHeld ?_;simp only [putS]
  refine wpAnyH_done (by kernel_rfl) ?_ _
  clear hHeld
  clear HS3 KR KO
  go_wp2
  go_ret
  exact⟨ret_int (by rw [act_join HA2.out HJ2.out HNS.out HA.out HB2.out,HO.out]),hB.trans (hC5.mono hB.size)⟩
end Go.Proofs.YtpodldagcnfhlaaGreat
