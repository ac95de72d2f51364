/-
  FnReduction
-/
import Derived.Test.YtblbnbfghlkkfaaGreatRows
import Derived.Test.YtblbnbfghlkkfaaGreatKeep
import Derived.Test.YtblbnbfghlkkfaaGreatSpw
import Derived.Test.YtblbnbfghlkkfaaGreatRdp
import Derived.Test.YtblbnbfghlkkfaaGreatCvl
import Derived.Test.YtblbnbfghlkkfaaGreatIbf
import Derived.Test.YtblbnbfghlkkfaaGreatOpen
import Derived.WalkKit
import Derived.ProofKit
import Derived.OpenShut
import Derived.ChangeOld
import Derived.Below
import Derived.Deep.RegionHeld3
namespace Go.Proofs.YtblbnbfghlkkfaaGreat.fnReduction
open Go.ChangeShapes Go.WideShapes Go.ChangeAt Go.RowKit
set_option linter.unusedVariables false
set_option linter.unusedSimpArgs false

theorem own:ownKnob Tryz.prog.godebug=none:=by kernel_rfl
theorem laidOut:laidOutB Tryz.prog=true:=by kernel_rfl
theorem opens_byte {P:Program}{t:TypeId}(ht:P.underlying t=some (.int .u8)):Opens P t rByte:=by
 intro H enc w base spare held fuel cs x h
 obtain⟨n,rfl,_,hw⟩:=DataW.trod_int ht h
 exact⟨n,rfl,bounds_u8 hw⟩
theorem big_c (A:Option Addr) (n cap:Nat) (w:World):Calls Tryz.prog 4 #[.slice A n cap] w fun e w'=>e=.returned (.bool (decide (1048576<n)))/\w=w':=by
 by_cases h:(1048576:Int)<n
 ·go_enter Tryz.func4,Tryz.ntmps4
  go_wp2
  go_ret
  exact⟨ret_bool (by simp;omega),rfl⟩
 ·go_enter Tryz.func4,Tryz.ntmps4
  go_wp2
  go_ret
  exact⟨ret_bool (by simp;omega),rfl⟩
theorem has_c (A:Option Addr) (n cap:Nat) (l:List Int) (x:Int) (w:World) (hr:RS NB rInt w A n cap l) (hm:x∈l) :
  Calls Tryz.prog 10 #[.slice A n cap,.int .i64 x] w fun e w'=>e=.returned (.bool true)/\Qt w w':=by
 have hn:=hr.bound
 have HM:=Lib.hid hm;clear hm
 go_enter Tryz.func10,Tryz.ntmps10
 go_wp2
 go_loopw [5] (fun i wr=>∃ k:Nat,k<=n/\i=.int .i64 k/\(∀ j:Nat,j<k->l[j]?≠some x)/\wr=w) (fun i _=>n - (intOf i).toNat)
 case atStart=>exact⟨0,Nat.zero_le _,rfl,fun j hj=>absurd hj (Nat.not_lt_zero _),rfl⟩
 case round =>
  obtain⟨k,hk,rfl,hno,rfl⟩:=hrel
  have HE:=Lib.hid hno;clear hno
  by_cases hlt:k<n
  ·obtain⟨bb,off,y,rfl,hc,hI,hyk⟩:=hr.ati hlt
   by_cases hy:y=x
   ·have hb:(y==x)=true:=by simp [hy]
    go_wp2
    go_ret
    exact⟨rfl,Qt.refl _⟩
   ·have hb:(y==x)=false:=by simp [hy]
    have HY:=Lib.hid hy;clear hy
    go_wp2
    go_roundw
    case rel =>
     refine⟨k+1,by omega,by go_num,fun j hj=>?_,by trivial⟩
     rcases Nat.lt_succ_iff_lt_or_eq.1 hj with h|h
     ·exact HE.out j h
     ·subst h;rw [hyk.out];exact fun e=>HY.out (Option.some.inj e)
    case measure=>simp [intOf];omega
  ·exfalso
   obtain⟨j,hj⟩:=List.getElem?_of_mem HM.out
   have h1:=lt_of_at hj
   have h2:=hr.len
   exact HE.out j (by omega) hj
set_option maxRecDepth 100000 in
set_option maxHeartbeats 12800000 in
theorem walk (A:Option Addr) (n cap:Nat) (l:List Int) (w:World) (r0:RS maxLen rByte w A n cap l) :
  Calls Tryz.prog 3 #[.slice A n cap] w fun e w'=>e=.returned (.bool true)/\Below w.heap.size w w':=by
 by_cases hsz:n<=1048576
 rotate_left
 ·have hd:decide (1048576<n)=true:=by simp;omega
  go_enter Tryz.func3,Tryz.ntmps3
  go_wp2_with (go_at_call 4;refine(big_c _ _ _ _).mono ?_;rintro e w' ⟨rfl,rfl⟩)
  go_ret
  exact⟨rfl,Below.refl _ _⟩
 have hd:decide (1048576<n)=false:=by simp;omega
 have hr:=smallB r0 hsz
 clear r0
 go_enter Tryz.func3,Tryz.ntmps3
 go_wp2_with (go_at_call 4;refine(big_c _ _ _ _).mono ?_;rintro e w' ⟨rfl,rfl⟩)
 clear hd
 refine(drawReducePlans_c _ _ _ _ _ hr).mono ?_
 rintro e w5 ⟨m,cm,q,vc,Aq,nq,cq,s,cs,Af,nf,cf,fr,b,rfl,rM,rQ,rS,rF,bI,hB⟩
 obtain⟨AL,nL,cL,AH,nH,cH,AC,nC,cC,AK,nK,cK,AP,nP,cP,rfl,_⟩:=rSpace_rep.1 rS
 have lenm:=(rModel_ok NB).len rM
 have ON:=one_rep (rModel_ok NB) rM
 have hcz:cm.toArray.size=30:=List.size_toArray.trans lenm
 obtain⟨gM,hgM⟩:∃ z,z=w5.heap.size:=⟨_,rfl⟩
 obtain⟨w6,hw6⟩:∃ W,W=w5.alloc (.cells #[.int .i64 0,.int .i64 0,.int .i64 0,.int .i64 0,.int .i64 0,.slice none 0 0,.int .i64 0,.int .i64 0,.int .i64 0,.int .i64 0,.int .i64 0,.slice none 0 0,.int .i64 0,.int .i64 0,.int .i64 0,.int .i64 0,.int .i64 0,.slice none 0 0,.int .i64 0,.int .i64 0,.int .i64 0,.int .i64 0,.int .i64 0,.slice none 0 0,.int .i64 0,.int .i64 0,.int .i64 0,.int .i64 0,.int .i64 0,.slice none 0 0] 28):=⟨_,rfl⟩
 obtain⟨w7,hw7⟩:∃ W,W=w6.alloc (.cells #[.int .i64 0,.slice none 0 0] 31):=⟨_,rfl⟩
 obtain⟨w8,hw8⟩:∃ W,W=w7.alloc (.cells #[.slice none 0 0,.slice none 0 0,.slice none 0 0,.slice none 0 0,.slice none 0 0] 37):=⟨_,rfl⟩
 have hs6:w6.heap.size=gM+1:=by rw [hw6,hgM];simp
 have hs7:w7.heap.size=gM+1+1:=by rw [hw7];simp [hs6]
 have b6:Below w5.heap.size w5 w6:=by rw [hw6];exact(Below.refl _ _).alloc (Nat.le_refl _) _
 have b7:Below w6.heap.size w6 w7:=by rw [hw7];exact(Below.refl _ _).alloc (Nat.le_refl _) _
 have b8:Below w7.heap.size w7 w8:=by rw [hw8];exact(Below.refl _ _).alloc (Nat.le_refl _) _
 have kM0:Bk w8 gM 28 [.int .i64 0,.int .i64 0,.int .i64 0,.int .i64 0,.int .i64 0,.slice none 0 0,.int .i64 0,.int .i64 0,.int .i64 0,.int .i64 0,.int .i64 0,.slice none 0 0,.int .i64 0,.int .i64 0,.int .i64 0,.int .i64 0,.int .i64 0,.slice none 0 0,.int .i64 0,.int .i64 0,.int .i64 0,.int .i64 0,.int .i64 0,.slice none 0 0,.int .i64 0,.int .i64 0,.int .i64 0,.int .i64 0,.int .i64 0,.slice none 0 0]:=Bk.below (w:=w7) (Bk.below (w:=w6) (by rw [hw6,hgM];exact Bk.new w5 _ _) b7) b8
 have kQ0:Bk w8 (gM+1) 31 [.int .i64 0,.slice none 0 0]:=Bk.below (w:=w7) (by rw [hw7,<- hs6];exact Bk.new w6 _ _) b8
 have kS0:Bk w8 (gM+1+1) 37 [.slice none 0 0,.slice none 0 0,.slice none 0 0,.slice none 0 0,.slice none 0 0]:=by rw [hw8,<- hs7];exact Bk.new w7 _ _
 have b58:Below w5.heap.size w5 w8:=(b6.trans (b7.mono (by omega))).trans (b8.mono (by omega))
 have TH:w8.there gM 0 cm.toArray.size:=by rw [hcz];exact kM0.there
 obtain⟨W9,hW9⟩:∃ W,W=setCells w8 gM 0 cm:=⟨_,rfl⟩
 obtain⟨W10,hW10⟩:∃ W,W=(W9.setCell ⟨gM+1,0,none⟩ (.int .i64 vc)).setCell ⟨gM+1,1,none⟩ (.slice Aq nq cq):=⟨_,rfl⟩
 obtain⟨W11,hW11⟩:∃ W,W=((((W10.setCell ⟨gM+1+1,0,none⟩ (.slice AL nL cL)).setCell ⟨gM+1+1,1,none⟩ (.slice AH nH cH)).setCell ⟨gM+1+1,2,none⟩ (.slice AC nC cC)).setCell ⟨gM+1+1,3,none⟩ (.slice AK nK cK)).setCell ⟨gM+1+1,4,none⟩ (.slice AP nP cP):=⟨_,rfl⟩
 have b9:Below gM w5 W9:=by rw [hW9];exact Below.setCells (hgM▸b58) (Nat.le_refl _) _ _
 have b10:Below gM w5 W10:=by rw [hW10];exact bls2 b9 (by omega) _ _
 have b11:Below gM w5 W11:=by rw [hW11];exact bls5 b10 (by omega) _ _ _ _ _
 have kM9:Bk W9 gM 28 cm:=by rw [hW9];exact kM0.fill (by rw [lenm];rfl)
 have kQ9:Bk W9 (gM+1) 31 [.int .i64 0,.slice none 0 0]:=by rw [hW9];exact kQ0.otherC (by omega) 0 cm
 have kS9:Bk W9 (gM+1+1) 37 [.slice none 0 0,.slice none 0 0,.slice none 0 0,.slice none 0 0,.slice none 0 0]:=by rw [hW9];exact kS0.otherC (by omega) 0 cm
 have n10:∀ z,z≠gM+1->W10.heap[z]?=W9.heap[z]?:=fun z hz=>by rw [hW10];exact(heap_setCell_other _ ⟨gM+1,1,none⟩ z _ (fun e=>hz e)).trans (heap_setCell_other _ ⟨gM+1,0,none⟩ z _ (fun e=>hz e))
 have kQ10:Bk W10 (gM+1) 31 [.int .i64 vc,.slice Aq nq cq]:=by rw [hW10];exact(kQ9.set 0 _).set 1 _
 have kS10:Bk W10 (gM+1+1) 37 [.slice none 0 0,.slice none 0 0,.slice none 0 0,.slice none 0 0,.slice none 0 0]:=(n10 _ (by omega)).trans kS9
 have n11:∀ z,z≠gM+1+1->W11.heap[z]?=W10.heap[z]?:=fun z hz=>by rw [hW11];exact set5_ne hz _ _ _ _ _
 have kM:Bk W11 gM 28 cm:=(n11 _ (by omega)).trans ((n10 _ (by omega)).trans kM9)
 have kQ:Bk W11 (gM+1) 31 [.int .i64 vc,.slice Aq nq cq]:=(n11 _ (by omega)).trans kQ10
 have kS:Bk W11 (gM+1+1) 37 [.slice AL nL cL,.slice AH nH cH,.slice AC nC cC,.slice AK nK cK,.slice AP nP cP]:=by rw [hW11];exact kS10.set5 _ _ _ _ _
 have b5b:Below w5.heap.size w5 W11:=hgM▸b11
 have HM:=(rModel_ok NB).keep rM (cells_below b5b)
 have HQ:=(rQuery_ok NB).keep rQ (cells_below b5b)
 have HSp:=(rSpace_ok NB).keep rS (cells_below b5b)
 have rF:=rF.below rInt_ok b5b
 have B11:=hB.trans (b5b.mono hB.size)
 have ⟨q0,g0,q1,g1⟩:=kQ9.r2
 have ⟨p0,f0,p1,f1,p2,f2,p3,f3,p4,f4⟩:=kS9.r5
 have HWK:Hid (w8.setCells gM 0 cm.toArray.toList=W9):=by show _=_;rw [setCells_kit,hW9]
 have HGM:=Lib.hid hgM
 have HW:Hid (w6=w5.alloc (.cells #[.int .i64 0,.int .i64 0,.int .i64 0,.int .i64 0,.int .i64 0,.slice none 0 0,.int .i64 0,.int .i64 0,.int .i64 0,.int .i64 0,.int .i64 0,.slice none 0 0,.int .i64 0,.int .i64 0,.int .i64 0,.int .i64 0,.int .i64 0,.slice none 0 0,.int .i64 0,.int .i64 0,.int .i64 0,.int .i64 0,.int .i64 0,.slice none 0 0,.int .i64 0,.int .i64 0,.int .i64 0,.int .i64 0,.int .i64 0,.slice none 0 0] 28)/\w7=w6.alloc (.cells #[.int .i64 0,.slice none 0 0] 31)/\w8=w7.alloc (.cells #[.slice none 0 0,.slice none 0 0,.slice none 0 0,.slice none 0 0,.slice none 0 0] 37)):=⟨hw6,hw7,hw8⟩
 have HW10:=Lib.hid hW10
 have HW11:=Lib.hid hW11
 clear hgM hs6 hs7 hw6 hw7 hw8 hW9 hW10 hW11 b6 b7 b8 b58 b9 b10 b11 b5b kM0 kQ0 kS0 kM9 kQ9 kS9 kQ10 kS10 n10 n11 rM rQ rS hr hB hsz bI
 go_upto_region 4 with (refine wpList_store_mid rfl 28 _ _ rfl gM 0 cm.toArray (by rw [HGM.out];rfl) rfl (by rw [<- HW.out.1,<- HW.out.2.1,<- HW.out.2.2];exact TH) (by rw [hcz];exact sizeModelT) ON ?_;rw [<- HW.out.1,<- HW.out.2.1,<- HW.out.2.2,HWK.out,<- HGM.out])
 rw [<- HW10.out,<- HW11.out]
 clear HW10 HW11 HWK HGM HW TH q0 g0 q1 g1 p0 f0 p1 f1 p2 f2 p3 f3 p4 f4
 obtain⟨csF,hF⟩:∃ c:List Value,c=[.slice AL nL cL,.slice AH nH cH,.slice AC nC cC,.slice AK nK cK,.slice AP nP cP]:=⟨_,rfl⟩
 have lenF:csF.length=5:=by rw [hF];rfl
 rw [<- hF]at kS HSp
 clear hF ON hcz
 have HK:Hid (∀ W,Below W11.heap.size W11 W->(rModel NB).rep W cm m/\(rQuery NB).rep W [.int .i64 vc,.slice Aq nq cq] q/\(rSpace NB).rep W csF s/\RS NB rInt W Af nf cf fr/\Below w.heap.size w W):=by
  show ∀ W,_->_
  exact fun W hW=>⟨(rModel_ok NB).keep HM (cells_below hW),(rQuery_ok NB).keep HQ (cells_below hW),(rSpace_ok NB).keep HSp (cells_below hW),rF.below rInt_ok hW,B11.trans (hW.mono B11.size)⟩
 have HSS:Hid (∀ w':World,Below W11.heap.size W11 w'->w'.rangeAt gM 0 cm/\w'.cell? ⟨gM+1,0,none⟩=some (.int .i64 vc)/\w'.cell? ⟨gM+1,1,none⟩=some (.slice Aq nq cq)/\w'.rangeAt (gM+1+1) 0 csF):=by
  show ∀ w':World,_->_
  exact fun w' h=>⟨(kM.below h).rangeAt,(kQ.below h).bx 0 _ rfl,(kQ.below h).bx 1 _ rfl,(kS.below h).rangeAt⟩
 have r11:=Below.refl W11.heap.size W11
 clear HM HQ HSp rF B11 kM kQ kS
 obtain⟨cov,hcov⟩:∃ c:Int->Int->Bool,c=(fun k x=>coversL m q s k x b):=⟨_,rfl⟩
 have HC:=Lib.hid hcov
 clear hcov
 obtain⟨fp,hfp⟩:∃ v,frontierPlans s fr=v:=⟨_,rfl⟩
 have HFP:=Lib.hid hfp
 clear hfp
 obtain⟨ch,hch⟩:∃ v,reducePlans cov fp fr=v:=⟨_,rfl⟩
 have hlaw:=reduction_law (cov:=cov) (ps:=fp) (f:=fr)
 rw [hch]at hlaw
 have HL:=Lib.hid hlaw
 have HCH:=Lib.hid hch
 clear hch hlaw
 have ⟨FM,F0,F1,FS⟩:=HSS.out _ r11
 go_wp2_with (first|(refine wpList_load_mid rfl 28 _ rfl gM 0 rfl cm _ FM Tryz.underlying28 rfl (by rw [lenm];exact sizeModelT) ?_)|(refine wpList_load_mid rfl 37 _ rfl (gM+1+1) 0 rfl csF _ FS Tryz.underlying37 rfl (by rw [lenF];exact sizeSpaceT) ?_))
 refine(iReducePlans_c cm m _ q csF s Af nf cf fr b W11 (HK.out _ r11).1 (HK.out _ r11).2.1 (HK.out _ r11).2.2.1 (HK.out _ r11).2.2.2.1).mono ?_
 rintro e w12 ⟨Ac,nc,cc,rfl,mC,hb12⟩
 rw [<- HC.out,HFP.out,HCH.out]at mC
 have rC:=mC.rs rInt_ok
 clear mC FM F0 F1 FS
 have ⟨FM,F0,F1,FS⟩:=HSS.out _ hb12
 have hkk:=HK.out _ hb12
 go_wp2_with (first|(refine wpList_load_mid rfl 28 _ rfl gM 0 rfl cm _ FM Tryz.underlying28 rfl (by rw [lenm];exact sizeModelT) ?_)|(refine wpList_load_mid rfl 37 _ rfl (gM+1+1) 0 rfl csF _ FS Tryz.underlying37 rfl (by rw [lenF];exact sizeSpaceT) ?_))
 refine(sReducePlans_c cm m _ q csF s Af nf cf fr b w12 hkk.1 hkk.2.1 hkk.2.2.1 hkk.2.2.2.1).mono ?_
 rintro e w13 ⟨Ad,nd,cd,rfl,mD,hb13⟩
 rw [<- HC.out,HFP.out,HCH.out]at mD
 have rD:=mD.rs rInt_ok
 have hB13:=hb12.trans (hb13.mono hb12.size)
 have rC13:=rC.below rInt_ok hb13
 clear mD FM F0 F1 FS rC hb13 hkk hb12
 go_wp2_with fail
 refine(sameInts_c _ _ _ _ _ _ ch ch w13 rC13 rD).mono ?_
 rintro e w14 ⟨rfl,q14⟩
 have hB14:=hB13.trans ((Qt.belowS q14).mono hB13.size)
 have rC14:=rC13.below rInt_ok (Qt.belowS q14)
 rw [decide_eq_true (rfl:ch=ch)]
 clear rC13 rD q14 hB13
 have ⟨FM,F0,F1,FS⟩:=HSS.out _ hB14
 have hkk:=HK.out _ hB14
 go_wp2_with (first|(refine wpList_load_mid rfl 28 _ rfl gM 0 rfl cm _ FM Tryz.underlying28 rfl (by rw [lenm];exact sizeModelT) ?_)|(refine wpList_load_mid rfl 37 _ rfl (gM+1+1) 0 rfl csF _ FS Tryz.underlying37 rfl (by rw [lenF];exact sizeSpaceT) ?_))
 refine(sFrontierPlans_c csF s Af nf cf fr w14 hkk.2.2.1 hkk.2.2.2.1).mono ?_
 rintro e w15 ⟨Ap,np,cp,rfl,mP,hb15⟩
 rw [HFP.out]at mP
 have rP:=mP.rs rInt_ok
 have hB15:=hB14.trans (hb15.mono hB14.size)
 have rC15:=rC14.below rInt_ok hb15
 clear FM F0 F1 FS rC14 mP hb15 hkk hB14
 have HCN:=Lib.hid rC15.len
 have HPN:=Lib.hid rP.len
 have hcn:=rC15.bound
 have HR:Hid (∀ W,Below w15.heap.size w15 W->RS NB rInt W Ac nc cc ch/\RS NB rInt W Ap np cp fp/\Below W11.heap.size W11 W):=by
  show ∀ W,_->_
  exact fun W hW=>⟨rC15.below rInt_ok hW,rP.below rInt_ok hW,hB15.trans (hW.mono hB15.size)⟩
 clear rC15 rP
 go_wp2_with fail
 go_loopw [10] (fun i wr=>∃ k:Nat,k<=nc/\i=.int .i64 k/\Below w15.heap.size w15 wr) (fun i _=>nc - (intOf i).toNat)
 case atStart=>exact⟨0,Nat.zero_le _,rfl,Below.refl _ _⟩
 case round =>
  obtain⟨k,hk,rfl,hBr⟩:=hrel
  obtain⟨rCr,rPr,hBW⟩:=HR.out _ hBr
  by_cases hlt:k<nc
  ·obtain⟨bc,off,x,rfl,hc,hI,hxk⟩:=rCr.ati hlt
   have hx:x∈ch:=List.mem_of_getElem? hxk.out
   obtain⟨hin,hcv⟩:=HL.out.1 x hx
   have HNE:=Lib.hid hcv
   clear hx hcv hxk
   have HSS2:Hid (∀ w':World,Below wr.heap.size wr w'->w'.rangeAt gM 0 cm/\w'.cell? ⟨gM+1,0,none⟩=some (.int .i64 vc)/\w'.cell? ⟨gM+1,1,none⟩=some (.slice Aq nq cq)/\w'.rangeAt (gM+1+1) 0 csF/\w'.cell? ⟨bc,off+k,none⟩=some (.int .i64 x)):=by
    show ∀ w':World,_->_
    intro w' h
    obtain⟨a1,a2,a3,a4⟩:=HSS.out w' (hBW.trans (h.mono hBW.size))
    exact⟨a1,a2,a3,a4,cells_below h _ _ hc⟩
   have hd:=(Below.refl wr.heap.size wr).drew
   have hBd:=hBW.trans (hd.mono hBW.size)
   have rPd:=rPr.below rInt_ok hd
   clear hc rPr rCr
   go_wp2_with fail
   refine hbg HSS2.out hd (fun hHeld=>?_)
   refine tka 0 45 hHeld ?_;simp only [putS]
   refine tka 1 46 hHeld ?_;simp only [putS]
   refine tka 2 47 hHeld ?_;simp only [putS]
   refine tka 3 48 hHeld ?_;simp only [putS]
   refine tka 4 49 hHeld ?_;simp only [putS]
   refine rd 5 (some 50) fun K hK=>?_
   clear hHeld
   go_simp
   refine(has_c Ap np cp fp x _ rPd hin).mono ?_
   rintro e w16 ⟨rfl,q16⟩
   have hb16:=Qt.belowS q16
   have hd2:Below wr.heap.size wr w16:=hd.trans (hb16.mono hd.size)
   go_wp2_with fail
   refine hK.out _ _ (HSS2.out _ hd2) (fun hHeld=>?_)
   clear hK K
   try simp only [putS]
   refine tka 6 51 hHeld ?_;simp only [putS]
   refine tka 7 52 hHeld ?_;simp only [putS]
   refine' wpAnyH_take (i:=8) (oi:=⟨some 53,_,_,_,_,_⟩) (v:=_) rfl (by kernel_rfl) (by kernel_rfl) (by kernel_rfl) (fun _ _ _ h=>h) (yieldsIf_load_mid (by rfl) _ _ rfl _ _ rfl _ _ (fun w h=>h.1) Tryz.underlying28 rfl (by rw [lenm];exact sizeModelT)) hHeld ?_
   simp only [putS]
   refine tka 9 54 hHeld ?_;simp only [putS]
   refine' wpAnyH_take (i:=10) (oi:=⟨some 55,_,_,_,_,_⟩) (v:=_) rfl (by kernel_rfl) (by kernel_rfl) (by kernel_rfl) (fun _ _ _ h=>h) (yieldsIf_load_mid (by rfl) _ _ rfl _ _ rfl _ _ (fun w h=>h.2.2.2.1) Tryz.underlying37 rfl (by rw [lenF];exact sizeSpaceT)) hHeld ?_
   simp only [putS]
   refine tka 11 56 hHeld ?_;simp only [putS]
   refine tka 12 57 hHeld ?_;simp only [putS]
   refine tka 13 58 hHeld ?_;simp only [putS]
   refine tka 14 59 hHeld ?_;simp only [putS]
   refine tka 15 60 hHeld ?_;simp only [putS]
   refine tka 16 61 hHeld ?_;simp only [putS]
   have hBd2:=hBW.trans (hd2.mono hBW.size)
   have hkk:=HK.out _ hBd2
   refine rd 17 (some 62) fun K hK=>?_
   clear hHeld
   go_simp
   refine(iCoveredBy_c cm m _ q csF s x Af nf cf fr b _ hkk.1 hkk.2.1 hkk.2.2.1 hkk.2.2.2.1).mono ?_
   rintro e w17 ⟨Ae,ne,ce,rfl,mE,hb17⟩
   have hd3:Below wr.heap.size wr w17:=hd2.trans (hb17.mono hd2.size)
   go_wp2_with fail
   refine hK.out _ _ (HSS2.out _ hd3) (fun hHeld=>?_)
   clear hK K
   try simp only [putS]
   have hne:((ne:Int)==0)=false:=by
    have h1:=(mE.rs rInt_ok).len
    have h2:=HNE.out
    rw [HC.out]at h2
    have h3:ne≠0:=fun e=>h2 (h1.trans e)
    simp;omega
   clear mE hkk hBd2
   refine tka 18 63 hHeld ?_;simp only [putS]
   refine tka 19 64 hHeld ?_;simp only [putS]
   refine tka 20 65 hHeld ?_;simp only [putS]
   refine wpAnyH_done (by kernel_rfl) ?_ _
   clear hHeld
   clear hne HSS2 hd hBd rPd q16 hb16 hb17 hd2 HNE hin
   go_wp2_with fail
   go_roundw
   case rel=>exact⟨k+1,by omega,by go_num,hBr.trans (hd3.mono hBr.size)⟩
   case measure=>simp [intOf];omega
  ·clear rCr rPr
   have hd:=(Below.refl wr.heap.size wr).drew
   have hBd:=hBW.trans (hd.mono hBW.size)
   have hBrd:=hBr.trans (hd.mono hBr.size)
   obtain⟨cA,hcA⟩:∃ v,fr.all (fun x=>ch.any (fun k=>coversL m q s k x b))=v:=⟨_,rfl⟩
   obtain⟨cB,hcB⟩:∃ v,fr.all (fun x=>fp.any (fun k=>coversL m q s k x b))=v:=⟨_,rfl⟩
   have HIM:Hid (cB=true->cA=true):=by
    show _->_
    have h:=HL.out.2.2
    rw [HC.out]at h
    rw [<- hcA,<- hcB]
    exact h
   have HCB:=Lib.hid hcB
   have HCA:=Lib.hid hcA
   clear hcA hcB
   have hqq:(cA != cA)=false:=by simp
   go_wp2_with fail
   refine hbg HSS.out hBd (fun hHeld=>?_)
   refine' wpAnyH_take (i:=0) (oi:=⟨some 66,_,_,_,_,_⟩) (v:=_) rfl (by kernel_rfl) (by kernel_rfl) (by kernel_rfl) (fun _ _ _ h=>h) (yieldsIf_load_mid (by rfl) _ _ rfl _ _ rfl _ _ (fun w h=>h.1) Tryz.underlying28 rfl (by rw [lenm];exact sizeModelT)) hHeld ?_
   simp only [putS]
   refine tka 1 67 hHeld ?_;simp only [putS]
   refine' wpAnyH_take (i:=2) (oi:=⟨some 68,_,_,_,_,_⟩) (v:=_) rfl (by kernel_rfl) (by kernel_rfl) (by kernel_rfl) (fun _ _ _ h=>h) (yieldsIf_load_mid (by rfl) _ _ rfl _ _ rfl _ _ (fun w h=>h.2.2.2) Tryz.underlying37 rfl (by rw [lenF];exact sizeSpaceT)) hHeld ?_
   simp only [putS]
   refine tka 3 69 hHeld ?_;simp only [putS]
   refine tka 4 70 hHeld ?_;simp only [putS]
   refine tka 5 71 hHeld ?_;simp only [putS]
   refine' wpAnyH_take (i:=7) (oi:=⟨some 73,_,_,_,_,_⟩) (v:=_) rfl (by kernel_rfl) (by kernel_rfl) (by kernel_rfl) (fun _ _ _ h=>h) (yieldsIf_load_mid (by rfl) _ _ rfl _ _ rfl _ _ (fun w h=>h.1) Tryz.underlying28 rfl (by rw [lenm];exact sizeModelT)) hHeld ?_
   simp only [putS]
   refine tka 8 74 hHeld ?_;simp only [putS]
   refine' wpAnyH_take (i:=9) (oi:=⟨some 75,_,_,_,_,_⟩) (v:=_) rfl (by kernel_rfl) (by kernel_rfl) (by kernel_rfl) (fun _ _ _ h=>h) (yieldsIf_load_mid (by rfl) _ _ rfl _ _ rfl _ _ (fun w h=>h.2.2.2) Tryz.underlying37 rfl (by rw [lenF];exact sizeSpaceT)) hHeld ?_
   simp only [putS]
   refine tka 10 76 hHeld ?_;simp only [putS]
   refine tka 11 77 hHeld ?_;simp only [putS]
   refine tka 12 78 hHeld ?_;simp only [putS]
   have hk1:=HK.out _ hBd
   refine rd 6 (some 72) fun K hK=>?_
   clear hHeld
   go_simp
   refine(iIsPlanCover_c cm m _ q csF s Ac nc cc ch Af nf cf fr b _ hk1.1 hk1.2.1 hk1.2.2.1 (HR.out _ hBrd).1 hk1.2.2.2.1).mono ?_
   rintro e w16 ⟨rfl,hb16⟩
   rw [HCA.out]
   have hB6:Below W11.heap.size W11 w16:=hBd.trans (hb16.mono hBd.size)
   have hBr6:Below w15.heap.size w15 w16:=hBrd.trans (hb16.mono hBrd.size)
   go_wp2_with fail
   refine hK.out _ _ (HSS.out _ hB6) (fun hHeld=>?_)
   clear hK K
   try simp only [putS]
   have hk2:=HK.out _ hB6
   refine rd 13 (some 79) fun K hK=>?_
   clear hHeld
   go_simp
   refine(sIsPlanCover_c cm m _ q csF s Ac nc cc ch Af nf cf fr b _ hk2.1 hk2.2.1 hk2.2.2.1 (HR.out _ hBr6).1 hk2.2.2.2.1).mono ?_
   rintro e w17 ⟨rfl,hb17⟩
   rw [HCA.out]
   have hB7:Below W11.heap.size W11 w17:=hB6.trans (hb17.mono hB6.size)
   have hBr7:Below w15.heap.size w15 w17:=hBr6.trans (hb17.mono hBr6.size)
   go_wp2_with fail
   refine hK.out _ _ (HSS.out _ hB7) (fun hHeld=>?_)
   clear hK K
   try simp only [putS]
   refine tka 14 80 hHeld ?_;simp only [putS]
   refine wpAnyH_done (by kernel_rfl) ?_ _
   clear hHeld
   clear hk1 hk2 hB6 hBr6 hBd hBrd hb16 hb17 hd
   have hleN:nc<=np:=by
    have h1:=HL.out.2.1
    have h2:=HCN.out
    have h3:=HPN.out
    omega
   have hleI:(nc:Int)<=np:=Int.ofNat_le.2 hleN
   have hleD:decide (nc<=np)=true:=decide_eq_true hleN
   have hle:decide ((nc:Int)<=np)=true:=decide_eq_true hleI
   have hk3:=HK.out _ hB7
   have hr3:=HR.out _ hBr7
   have ⟨FM,F0,F1,FS⟩:=HSS.out _ hB7
   go_wp2_with (first|(refine wpList_load_midG 28 _ rfl gM 0 rfl cm _ FM Tryz.underlying28 rfl (by rw [lenm];exact sizeModelT) (by rfl) ?_)|(refine wpList_load_midG 37 _ rfl (gM+1+1) 0 rfl csF _ FS Tryz.underlying37 rfl (by rw [lenF];exact sizeSpaceT) (by rfl) ?_))
   refine(sIsPlanCover_c cm m _ q csF s Ap np cp fp Af nf cf fr b w17 hk3.1 hk3.2.1 hk3.2.2.1 hr3.2.1 hk3.2.2.2.1).mono ?_
   rintro e w18 ⟨rfl,hb18⟩
   rw [HCB.out]
   have hB8:=hB7.trans (hb18.mono hB7.size)
   have hBr8:=hBr7.trans (hb18.mono hBr7.size)
   clear FM F0 F1 FS hk3 hr3 hB7 hBr7 hb18
   have hk4:=HK.out _ hB8
   have hr4:=HR.out _ hBr8
   have ⟨FM,F0,F1,FS⟩:=HSS.out _ hB8
   cases cB with
   | false =>
    go_wp2_with fail
    go_ret
    exact⟨rfl,hk4.2.2.2.2⟩
   | true =>
    have hA:=HIM.out rfl
    go_wp2_with (first|(refine wpList_load_midG 28 _ rfl gM 0 rfl cm _ FM Tryz.underlying28 rfl (by rw [lenm];exact sizeModelT) (by rfl) ?_)|(refine wpList_load_midG 37 _ rfl (gM+1+1) 0 rfl csF _ FS Tryz.underlying37 rfl (by rw [lenF];exact sizeSpaceT) (by rfl) ?_))
    refine(iIsPlanCover_c cm m _ q csF s Ac nc cc ch Af nf cf fr b w18 hk4.1 hk4.2.1 hk4.2.2.1 hr4.1 hk4.2.2.2.1).mono ?_
    rintro e w19 ⟨rfl,hb19⟩
    rw [HCA.out,hA]
    go_wp2_with fail
    go_ret
    exact⟨rfl,hk4.2.2.2.2.trans (hb19.mono hk4.2.2.2.2.size)⟩

set_option maxRecDepth 100000 in
theorem lifted (os:Os) (started:os.Started) (H:Type) (enc:TypeId × Value->H) :
  ReturnsInHanded {} Tryz.checked os 3 .any (Rows.fnReductionSpec.pre6 enc Tryz.prog Tryz.f3 Rows.fnReductionRow.domain false) (Rows.fnReductionSpec.post enc Tryz.prog Tryz.f3 false true false false):=by
 refine returnsInHanded_of_change (C:=Tryz.checked) own started (by kernel_rfl) Tryz.func3
  (ChangeSpec.witness6 (enc:=enc) (C:=Tryz.checked) false ⟨#[],#[.slice none 0 0],[]⟩ 8 (by kernel_rfl) (by kernel_rfl) (by kernel_rfl) (by kernel_rfl)) ?_
 intro W base args ds gs before hval0 hW hcnd _
 have hval:∀ (j:Nat) t v,Tryz.f3.params[j]?=some t->args[j]?=some v->Value.okWide Tryz.prog W .any base t v:=hval0
 have hW':=hW
 obtain⟨p,q,hA0,hV,rfl,hfz,hnd⟩:=hW
 have hA:DataW.TrodAll enc Tryz.prog W 0 (fun _=>true) true Tryz.f3.params.toList args.toList ds p:=hA0
 rw [Tryz.params3]at hA hval
 obtain⟨v0,vs0,d0,ds0,p0,q0,hargs,rfl,rfl,h0,r0⟩:=trodAll_cons hA
 obtain⟨rfl,rfl,rfl⟩:=trodAll_nil r0
 obtain rfl:args=#[v0]:=by cases args;simp_all
 obtain⟨rfl,rfl⟩:=trodVars_none hV
 obtain⟨A0,n0,c0,rfl⟩:=okWide_slice Tryz.underlying22 (hval 0 22 v0 rfl rfl)
 have k0:=h0
 have lt0:∀ x∈p0,x.block<W.heap.size:=by obtain⟨m,hm⟩:=k0;exact DataW.trod_lt m _ _ _ hm
 obtain⟨l0,g0⟩:∃ l,RS maxLen rByte W A0 n0 c0 l:=by
  obtain⟨fuel,hf⟩:=h0
  obtain⟨l,A,n,c,e,hr⟩:=(opens_slice rByte_ok Tryz.underlying22 (by kernel_rfl) (opens_byte Tryz.underlying5)) hf
  simp [Value.cells]at e
  obtain⟨rfl,rfl,rfl⟩:=e
  exact⟨l,hr⟩
 clear hA0 hval0
 refine(walk A0 n0 c0 l0 W g0).mono fun e W' ⟨he,bel⟩=>?_
 subst he
 exact⟨_,rfl,_,_,_,[],_,[],hW',trodAll_mk1 (shut_bool Tryz.underlying4 _),(trodAll_cons_mk (Below.trod laidOut (by kernel_rfl) (of_decide_eq_true (by kernel_rfl)) k0 bel lt0) trodAll_mk0),rfl,bel.frame _,fun h=>by cases h⟩

theorem over:Rows.fnReductionRow.holds Tryz.pinned (OpenSpec.ofChange Rows.fnReductionSpec) :=
 OpenClaim.holds_of_wide 3 Tryz.f3 rfl rfl rfl rfl rfl rfl rfl ⟨rfl,rfl,rfl,rfl,rfl⟩ rfl rfl rfl rfl rfl (by kernel_rfl) Tryz.func3 (by kernel_rfl)
  (of_decide_eq_true (by kernel_rfl)) (by unfold Func.isWrapper;first|(rw [if_pos (by decide +kernel)];kernel_rfl)|(rw [if_neg (by decide +kernel)];exact⟨rfl,rfl⟩))
  (fun os started H enc _=>lifted os started H enc)

theorem proved : Rows.FnReductionSaid := over
#print axioms proved
end Go.Proofs.YtblbnbfghlkkfaaGreat.fnReduction
