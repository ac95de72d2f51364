/-
  FnContours
-/
import Derived.Test.YtadgmjdafkihfaaGreatRows
import Derived.Test.YtadgmjdafkihfaaGreatKeep
import Derived.Test.YtadgmjdafkihfaaGreatSpw
import Derived.Test.YtadgmjdafkihfaaGreatIbf
import Derived.Test.YtadgmjdafkihfaaGreatNotes
import Derived.Test.YtadgmjdafkihfaaGreatOpen
import Derived.WalkKit
import Derived.ProofKit
import Derived.OpenShut
import Derived.ChangeOld
import Derived.Below
import Derived.Deep.RegionHeld3
namespace Go.Proofs.YtadgmjdafkihfaaGreat.fnContours
open Go.ChangeShapes Go.WideShapes Go.ChangeAt Go.RowKit
set_option linter.unusedVariables false
set_option linter.unusedSimpArgs false

theorem own:ownKnob Tryz.prog.godebug=none:=by kernel_rfl
theorem laidOut:laidOutB Tryz.prog=true:=by kernel_rfl
theorem opens_byte {P:Program}{t:TypeId}(ht:P.underlying t=some (.int .u8)):Opens P t rByte:=by
 intro H enc w base spare held fuel cs x h
 obtain⟨n,rfl,_,hw⟩:=DataW.trod_int ht h
 exact⟨n,rfl,bounds_u8 hw⟩
theorem big_c (A:Option Addr) (n cap:Nat) (w:World):Calls Tryz.prog 8 #[.slice A n cap] w fun e w'=>e=.returned (.bool (decide (1048576<n)))/\w=w':=by
 by_cases h:(1048576:Int)<n
 ·go_enter Tryz.func8,Tryz.ntmps8
  go_wp2
  go_ret
  exact⟨ret_bool (by simp;omega),rfl⟩
 ·go_enter Tryz.func8,Tryz.ntmps8
  go_wp2
  go_ret
  exact⟨ret_bool (by simp;omega),rfl⟩
set_option maxHeartbeats 800000 in
theorem at_c (A:Option Addr) (n cap:Nat) (l:List Int) (w:World) (hr:RS NB rByte w A n cap l) (hn:n<=1048576) :
  Calls Tryz.prog 18 #[.slice A n cap,.int .i64 0] w fun e w'=>∃ x:Int,e=.returned (.int .i64 x)/\0<=x/\x<256/\w'=w:=by
 by_cases h:0<n
 ·obtain⟨b,off,y,rfl,hc,hy0,hy1⟩:=hr.atb h
  have hi:(0:Int)<n:=by omega
  rw [Nat.add_zero]at hc
  go_enter Tryz.func18,Tryz.ntmps18
  go_wp2
  go_ret
  exact⟨_,rfl,by omega,by omega,rfl⟩
 ·have hi:¬ (0:Int)<n:=by omega
  have hn0:n=0:=by omega
  subst hn0
  go_enter Tryz.func18,Tryz.ntmps18
  go_wp2
  go_ret
  exact⟨_,rfl,by decide,by decide,rfl⟩
set_option maxRecDepth 100000 in
set_option maxHeartbeats 6400000 in
theorem walk (A:Option Addr) (n cap:Nat) (l:List Int) (w:World) (r0:RS maxLen rByte w A n cap l) :
  Calls Tryz.prog 3 #[.slice A n cap] w fun e w'=>e=.returned (.bool true)/\Below w.heap.size w w':=by
 by_cases hsz:n<=1048576
 rotate_left
 ·have hd:decide (1048576<n)=true:=by simp;omega
  go_enter Tryz.func3,Tryz.ntmps3
  go_wp2_with (go_at_call 8;refine(big_c _ _ _ _).mono ?_;rintro e w' ⟨rfl,rfl⟩)
  go_ret
  exact⟨rfl,Below.refl _ _⟩
 have hd:decide (1048576<n)=false:=by simp;omega
 have hr:=smallB r0 hsz
 clear r0
 go_enter Tryz.func3,Tryz.ntmps3
 go_wp2_with (go_at_call 8;refine(big_c _ _ _ _).mono ?_;rintro e w' ⟨rfl,rfl⟩)
 clear hd
 refine(drawFrontier_c _ _ _ _ _ hr).mono ?_
 rintro e w1 ⟨s,cs,b,rfl,rS,bI,hB⟩
 obtain⟨AL,nL,cL,AH,nH,cH,AC,nC,cC,AK,nK,cK,AP,nP,cP,rfl,rL,rH,rC,rK,rP⟩:=rSpace_rep.1 rS
 have hr1:=hr.below rByte_ok hB
 obtain⟨gB,hgB⟩:∃ z,z=w1.heap.size:=⟨_,rfl⟩
 obtain⟨w2,hw2⟩:∃ W,W=w1.alloc (.cells #[.slice AL nL cL,.slice AH nH cH,.slice AC nC cC,.slice AK nK cK,.slice AP nP cP] 29):=⟨_,rfl⟩
 have b2:Below w1.heap.size w1 w2:=by rw [hw2];exact(Below.refl _ _).alloc (Nat.le_refl _) _
 have kB:Bk w2 gB 29 [.slice AL nL cL,.slice AH nH cH,.slice AC nC cC,.slice AK nK cK,.slice AP nP cP]:=by rw [hw2,hgB];exact Bk.new w1 _ _
 have hB2:=hB.trans (b2.mono hB.size)
 have rS2:=(rSpace_ok NB).keep rS (cells_below b2)
 have hr2:=hr1.below rByte_ok b2
 have rC2:=rC.below rInt_ok b2
 have HCL:=Lib.hid rC.len
 clear hr hr1 hB rS rL rH rC rK rP b2
 go_upto_region 4 with fail
 rw [<- hw2,<- hgB]
 clear hw2 hgB
 have HK:Hid (∀ W,Below w2.heap.size w2 W->Bk W gB 29 [.slice AL nL cL,.slice AH nH cH,.slice AC nC cC,.slice AK nK cK,.slice AP nP cP]/\(rSpace NB).rep W [.slice AL nL cL,.slice AH nH cH,.slice AC nC cC,.slice AK nK cK,.slice AP nP cP] s):=by
  show ∀ W,_->_
  exact fun W hW=>⟨kB.below hW,(rSpace_ok NB).keep rS2 (cells_below hW)⟩
 have ⟨c0,f0,c1,f1,c2,f2,c3,f3,c4,f4⟩:=kB.r5
 go_wp2_with fail
 refine(iFrontier_c _ s b w2 rS2).mono ?_
 rintro e w3 ⟨Af,nf,cf,rfl,mF,hb3⟩
 obtain⟨fr,hfr⟩:∃ v,frontier s b=v:=⟨_,rfl⟩
 rw [hfr]at mF
 have HFR:=Lib.hid hfr
 have rF:=mF.rs rInt_ok
 have HLF:=Lib.hid rF.len
 clear hfr mF c0 f0 c1 f1 c2 f2 c3 f3 c4 f4 kB rS2
 have HSS:Hid (∀ w':World,Below w2.heap.size w2 w'->(w'.cell? ⟨gB,0,none⟩=some (.slice AL nL cL)/\w'.cell? ⟨gB,1,none⟩=some (.slice AH nH cH)/\w'.cell? ⟨gB,2,none⟩=some (.slice AC nC cC)/\w'.cell? ⟨gB,3,none⟩=some (.slice AK nK cK)/\w'.cell? ⟨gB,4,none⟩=some (.slice AP nP cP))):=by
  show ∀ w':World,_->_
  intro w' h
  have k:=(HK.out w' h).1
  exact⟨k.bx 0 _ rfl,k.bx 1 _ rfl,k.bx 2 _ rfl,k.bx 3 _ rfl,k.bx 4 _ rfl⟩
 have hd3:=hb3.trans ((Below.refl w3.heap.size w3).drew.mono hb3.size)
 obtain⟨N,hN⟩:∃ N:Int,((countIn s s.fCosts (fun c=>decide (c<=b)):Nat):Int)=N:=⟨_,rfl⟩
 have HN:=Lib.hid hN
 clear hN
 have hqq:(N != N)=false:=by simp
 go_upto_region 5 with fail
 refine hbg HSS.out hd3 (fun hHeld=>?_)
 refine tka 0 19 hHeld ?_;simp only [putS]
 refine tka 1 20 hHeld ?_;simp only [putS]
 refine tka 2 21 hHeld ?_;simp only [putS]
 refine rd 3 (some 22) fun K hK=>?_
 clear hHeld
 go_simp
 refine(sFrontier_c _ s b _ (HK.out _ hd3).2).mono ?_
 rintro e w4 ⟨Ag,ng,cg,rfl,mG,hb4⟩
 rw [HFR.out]at mG
 have hB4:Below w2.heap.size w2 w4:=hd3.trans (hb4.mono hd3.size)
 go_wp2_with fail
 refine hK.out _ _ (HSS.out _ hB4) (fun hHeld=>?_)
 clear hK K
 try simp only [putS]
 refine rd 4 (some 23) fun K hK=>?_
 clear hHeld
 go_simp
 refine(sameInts_c _ _ _ _ _ _ fr fr w4 ((rF.below rInt_ok (Below.refl _ _).drew).below rInt_ok hb4) (mG.rs rInt_ok)).mono ?_
 rintro e w5 ⟨rfl,q5⟩
 have hB5:Below w2.heap.size w2 w5:=hB4.trans ((Qt.belowS q5).mono hB4.size)
 rw [decide_eq_true (rfl:fr=fr)]
 go_wp2_with fail
 refine hK.out _ _ (HSS.out _ hB5) (fun hHeld=>?_)
 clear hK K
 try simp only [putS]
 refine tka 5 24 hHeld ?_;simp only [putS]
 refine tka 6 25 hHeld ?_;simp only [putS]
 refine tka 7 26 hHeld ?_;simp only [putS]
 refine tka 8 27 hHeld ?_;simp only [putS]
 refine tka 10 29 hHeld ?_;simp only [putS]
 refine tka 11 30 hHeld ?_;simp only [putS]
 refine rd 9 (some 28) fun K hK=>?_
 clear hHeld
 go_simp
 refine(iCountWithin_c _ s b w5 (HK.out _ hB5).2).mono ?_
 rintro e w6 ⟨rfl,hb6⟩
 rw [HN.out]
 have hB6:Below w2.heap.size w2 w6:=hB5.trans (hb6.mono hB5.size)
 go_wp2_with fail
 refine hK.out _ _ (HSS.out _ hB6) (fun hHeld=>?_)
 clear hK K
 try simp only [putS]
 refine rd 12 (some 31) fun K hK=>?_
 clear hHeld
 go_simp
 refine(sCountWithin_c _ s b w6 (HK.out _ hB6).2).mono ?_
 rintro e w7 ⟨rfl,hb7⟩
 rw [HN.out]
 have hB7:Below w2.heap.size w2 w7:=hB6.trans (hb7.mono hB6.size)
 go_wp2_with fail
 refine hK.out _ _ (HSS.out _ hB7) (fun hHeld=>?_)
 clear hK K
 try simp only [putS]
 refine tka 13 32 hHeld ?_;simp only [putS]
 refine tka 14 33 hHeld ?_;simp only [putS]
 refine wpAnyH_done (by kernel_rfl) ?_ _
 clear hHeld
 have h37:Below w3.heap.size w3 w7:=((((Below.refl w3.heap.size w3).drew.trans (hb4.mono (Nat.le_refl _))).trans ((Qt.belowS q5).mono hb4.size)).trans (hb6.mono (Nat.le_trans hb4.size (Qt.belowS q5).size))).trans (hb7.mono (Nat.le_trans hb4.size (Nat.le_trans (Qt.belowS q5).size hb6.size)))
 have rF7:=rF.below rInt_ok h37
 clear hqq HN hB4 hB5 hB6 hb6 hb7 mG hb4 q5 h37 rF hd3 hb3
 have ⟨c0,c1,c2,c3,c4⟩:=HSS.out w7 hB7
 go_wp2_with fail
 refine(sIsValidSpace_c _ s w7 (HK.out _ hB7).2).mono ?_
 rintro e w8 ⟨rfl,hb8⟩
 have hB8:=hB7.trans (hb8.mono hB7.size)
 have rF8:=rF7.below rInt_ok hb8
 clear c0 c1 c2 c3 c4 rF7 hb8 hB7
 cases hv:validSpace s with
 | false =>
  have hnf:nf=0:=by
   have:=HLF.out
   rw [<- HFR.out]at this
   unfold frontier at this
   rw [hv]at this
   simpa using this.symm
  clear hv
  subst hnf
  go_wp2
  go_ret
  exact⟨rfl,hB2.trans (hB8.mono hB2.size)⟩
 | true =>
  have HV:=Lib.hid hv
  have hsp:=validSpace_parts hv
  clear hv
  obtain⟨fp,hfp⟩:∃ v,frontierPlans s fr=v:=⟨_,rfl⟩
  have HFP:=Lib.hid hfp
  clear hfp
  have hd8:=hB8.trans ((Below.refl w8.heap.size w8).drew.mono hB8.size)
  have rFd:=rF8.below rInt_ok (Below.refl _ _).drew
  go_upto_region 9 with fail
  refine hbg HSS.out hd8 (fun hHeld=>?_)
  refine tka 0 40 hHeld ?_;simp only [putS]
  refine tka 1 41 hHeld ?_;simp only [putS]
  refine tka 3 43 hHeld ?_;simp only [putS]
  refine tka 4 44 hHeld ?_;simp only [putS]
  refine rd 2 (some 42) fun K hK=>?_
  clear hHeld
  go_simp
  refine(iFrontierPlans_c _ s _ _ _ fr _ (HK.out _ hd8).2 rFd).mono ?_
  rintro e w9 ⟨Ag,ng,cg,rfl,mG,hb9⟩
  rw [HFP.out]at mG
  have hB9:Below w2.heap.size w2 w9:=hd8.trans (hb9.mono hd8.size)
  go_wp2_with fail
  refine hK.out _ _ (HSS.out _ hB9) (fun hHeld=>?_)
  clear hK K
  try simp only [putS]
  refine rd 5 (some 45) fun K hK=>?_
  clear hHeld
  go_simp
  refine(sFrontierPlans_c _ s _ _ _ fr _ (HK.out _ hB9).2 (rFd.below rInt_ok hb9)).mono ?_
  rintro e w10 ⟨Ah,nh,ch,rfl,mH,hb10⟩
  rw [HFP.out]at mH
  have hB10:Below w2.heap.size w2 w10:=hB9.trans (hb10.mono hB9.size)
  go_wp2_with fail
  refine hK.out _ _ (HSS.out _ hB10) (fun hHeld=>?_)
  clear hK K
  try simp only [putS]
  refine rd 6 (some 46) fun K hK=>?_
  clear hHeld
  go_simp
  refine(sameInts_c _ _ _ _ _ _ fp fp w10 ((mG.rs rInt_ok).below rInt_ok hb10) (mH.rs rInt_ok)).mono ?_
  rintro e w11 ⟨rfl,q11⟩
  have hB11:Below w2.heap.size w2 w11:=hB10.trans ((Qt.belowS q11).mono hB10.size)
  rw [decide_eq_true (rfl:fp=fp)]
  go_wp2_with fail
  refine hK.out _ _ (HSS.out _ hB11) (fun hHeld=>?_)
  clear hK K
  try simp only [putS]
  refine tka 7 47 hHeld ?_;simp only [putS]
  refine wpAnyH_done (by kernel_rfl) ?_ _
  clear hHeld
  have rF11:=((rFd.below rInt_ok hb9).below rInt_ok hb10).below rInt_ok (Qt.belowS q11)
  clear mG mH hb9 hb10 q11 hB9 hB10 hd8 rFd rF8 HFP
  have hC1:1<=nC:=by have:=HCL.out;have:=hsp.2.1;have:=hsp.2.2.2.1;omega
  have hC4:nC<=400:=by have:=HCL.out;have:=hsp.2.2.1;have:=hsp.2.2.2.1;omega
  have hCne:¬ nC=0:=by omega
  have hd11:=hB11.trans ((Below.refl w11.heap.size w11).drew.mono hB11.size)
  have hr11:=(hr2.below rByte_ok hB11).below rByte_ok (Below.refl _ _).drew
  go_upto_region 11 with fail
  refine hbg HSS.out hd11 (fun hHeld=>?_)
  refine tka 0 48 hHeld ?_;simp only [putS]
  refine tka 2 50 hHeld ?_;simp only [putS]
  refine tka 3 51 hHeld ?_;simp only [putS]
  refine tka 4 52 hHeld ?_;simp only [putS]
  refine rd 1 (some 49) fun K hK=>?_
  clear hHeld
  go_simp
  refine(at_c _ _ _ _ _ hr11 hsz).mono ?_
  rintro e w12 ⟨x,rfl,hx0,hx1,rfl⟩
  go_wp2_with fail
  refine hK.out _ _ (HSS.out _ hd11) (fun hHeld=>?_)
  clear hK K
  try simp only [putS]
  refine tka 5 53 hHeld ?_;simp only [putS]
  refine tka 6 6 hHeld ?_;simp only [putS]
  refine wpAnyH_done (by kernel_rfl) ?_ _
  clear hHeld
  obtain⟨i,hi⟩:∃ i,i=x.tmod (nC:Int):=⟨_,rfl⟩
  have hib:0<=x.tmod (nC:Int)/\x.tmod (nC:Int)<nC:=by rw [Int.tmod_eq_emod_of_nonneg hx0];exact tmod_bd hx0 (by omega)
  rw [<- hi]at hib ⊢
  obtain⟨j,rfl⟩:∃ j:Nat,i=j:=⟨i.toNat,by omega⟩
  have hjn:j<nC:=by omega
  have hjI:I64 (j:Int):=by unfold I64;omega
  clear hi hib hx0 hx1 hr11 hCne
  have ⟨c0,c1,c2,c3,c4⟩:=HSS.out _ hd11
  have rBx:(rBox NB).rep w11.drew [.slice AL nL cL,.slice AH nH cH] s.fBox:=by
   obtain⟨_,_,_,_,_,_,_,_,_,_,_,_,_,_,_,e,rL,rH,_⟩:=rSpace_rep.1 (HK.out _ hd11).2
   simp only [List.cons.injEq,Value.slice.injEq,and_true]at e
   obtain⟨⟨rfl,rfl,rfl⟩,⟨rfl,rfl,rfl⟩,_⟩:=e
   exact rBox_rep.2 ⟨_,_,_,_,_,_,rfl,rL,rH⟩
  have rFd:=rF11.below rInt_ok (Below.refl w11.heap.size w11).drew
  clear rF11 hB11
  go_wp2_with fail
  refine(sBoxLocation_c _ s.fBox (j:Int) _ rBx hjI).mono ?_
  rintro e w13 ⟨Al,nl,cl,rfl,mL,hb13⟩
  obtain⟨lc,hlc⟩:∃ v,(boxLoc s.fBox (j:Int)).1=v:=⟨_,rfl⟩
  rw [hlc]at mL
  have HLC:=Lib.hid hlc
  have hB13:=hd11.trans (hb13.mono hd11.size)
  have rF13:=rFd.below rInt_ok hb13
  have rLc:=mL.rs rInt_ok
  obtain⟨bc,oc,cv,rfl,hcc,hcI,hcv⟩:=(rC2.below rInt_ok hB13).ati hjn
  have hcost:costN s (j:Int)=cv:=by unfold costN;rw [Int.toNat_natCast,hcv.out];rfl
  have HCO:=Lib.hid hcost
  have hjc:j<s.fCosts.length:=by rw [HCL.out];exact hjn
  clear hlc mL hb13 rFd rBx c0 c1 c2 c3 c4 hd11 hcost hcv
  have ⟨c0,c1,c2,c3,c4⟩:=HSS.out _ hB13
  by_cases hle:cv<=b
  ·have HBF:Hid (belowFrontier s fr lc=true):=by show _=_;rw [<- HFR.out,<- HLC.out];exact contour_in HV.out hjc (by rw [HCO.out];exact hle)
   have hled:decide (cv<=b)=true:=decide_eq_true hle
   go_wp2_with fail
   refine(iIsBelowFrontier_c _ s _ _ _ fr _ _ _ lc w13 (HK.out _ hB13).2 rF13 rLc).mono ?_
   rintro e w14 ⟨rfl,hb14⟩
   rw [HBF.out]
   have hB14:=hB13.trans (hb14.mono hB13.size)
   have hcc14:=cells_below hb14 _ _ hcc
   have rF14:=rF13.below rInt_ok hb14
   have rL14:=rLc.below rInt_ok hb14
   clear c0 c1 c2 c3 c4 hcc hb14 rF13 rLc hB13
   have ⟨c0,c1,c2,c3,c4⟩:=HSS.out _ hB14
   go_wp2_with fail
   refine(sIsMonotoneSpace_c _ s w14 (HK.out _ hB14).2).mono ?_
   rintro e w15 ⟨rfl,hb15⟩
   have hB15:=hB14.trans (hb15.mono hB14.size)
   have hcc15:=cells_below hb15 _ _ hcc14
   clear c0 c1 c2 c3 c4
   have ⟨c0,c1,c2,c3,c4⟩:=HSS.out _ hB15
   cases hm:monoSpace s with
   | false =>
    clear hm
    go_wp2
    go_ret
    exact⟨rfl,hB2.trans (hB15.mono hB2.size)⟩
   | true =>
    clear hm
    go_wp2
    go_ret
    exact⟨rfl,hB2.trans (hB15.mono hB2.size)⟩
  ·have hled:decide (cv<=b)=false:=decide_eq_false hle
   go_wp2_with fail
   refine(sIsMonotoneSpace_c _ s w13 (HK.out _ hB13).2).mono ?_
   rintro e w15 ⟨rfl,hb15⟩
   have hB15:=hB13.trans (hb15.mono hB13.size)
   have hcc15:=cells_below hb15 _ _ hcc
   have rF15:=rF13.below rInt_ok hb15
   have rL15:=rLc.below rInt_ok hb15
   clear c0 c1 c2 c3 c4
   have ⟨c0,c1,c2,c3,c4⟩:=HSS.out _ hB15
   cases hm:monoSpace s with
   | false =>
    clear hm
    go_wp2
    go_ret
    exact⟨rfl,hB2.trans (hB15.mono hB2.size)⟩
   | true =>
    have HBF:Hid (belowFrontier s fr lc=false):=by show _=_;rw [<- HFR.out,<- HLC.out];exact contour_out hm hjc (by rw [HCO.out];omega)
    clear hm
    go_wp2_with fail
    refine(iIsBelowFrontier_c _ s _ _ _ fr _ _ _ lc w15 (HK.out _ hB15).2 rF15 rL15).mono ?_
    rintro e w16 ⟨rfl,hb16⟩
    rw [HBF.out]
    go_wp2
    go_ret
    exact⟨rfl,hB2.trans ((hB15.trans (hb16.mono hB15.size)).mono hB2.size)⟩

set_option maxRecDepth 100000 in
theorem lifted (os:Os) (started:os.Started) (H:Type) (enc:TypeId × Value->H) :
  ReturnsInHanded {} Tryz.checked os 3 .any (Rows.fnContoursSpec.pre6 enc Tryz.prog Tryz.f3 Rows.fnContoursRow.domain false) (Rows.fnContoursSpec.post enc Tryz.prog Tryz.f3 false true false false):=by
 refine returnsInHanded_of_change (C:=Tryz.checked) own started (by kernel_rfl) Tryz.func3
  (ChangeSpec.witness6 (enc:=enc) (C:=Tryz.checked) false ⟨#[],#[.slice none 0 0],[]⟩ 8 (by kernel_rfl) (by kernel_rfl) (by kernel_rfl) (by kernel_rfl)) ?_
 intro W base args ds gs before hval0 hW hcnd _
 have hval:∀ (j:Nat) t v,Tryz.f3.params[j]?=some t->args[j]?=some v->Value.okWide Tryz.prog W .any base t v:=hval0
 have hW':=hW
 obtain⟨p,q,hA0,hV,rfl,hfz,hnd⟩:=hW
 have hA:DataW.TrodAll enc Tryz.prog W 0 (fun _=>true) true Tryz.f3.params.toList args.toList ds p:=hA0
 rw [Tryz.params3]at hA hval
 obtain⟨v0,vs0,d0,ds0,p0,q0,hargs,rfl,rfl,h0,r0⟩:=trodAll_cons hA
 obtain⟨rfl,rfl,rfl⟩:=trodAll_nil r0
 obtain rfl:args=#[v0]:=by cases args;simp_all
 obtain⟨rfl,rfl⟩:=trodVars_none hV
 obtain⟨A0,n0,c0,rfl⟩:=okWide_slice Tryz.underlying22 (hval 0 22 v0 rfl rfl)
 have k0:=h0
 have lt0:∀ x∈p0,x.block<W.heap.size:=by obtain⟨m,hm⟩:=k0;exact DataW.trod_lt m _ _ _ hm
 obtain⟨l0,g0⟩:∃ l,RS maxLen rByte W A0 n0 c0 l:=by
  obtain⟨fuel,hf⟩:=h0
  obtain⟨l,A,n,c,e,hr⟩:=(opens_slice rByte_ok Tryz.underlying22 (by kernel_rfl) (opens_byte Tryz.underlying5)) hf
  simp [Value.cells]at e
  obtain⟨rfl,rfl,rfl⟩:=e
  exact⟨l,hr⟩
 clear hA0 hval0
 refine(walk A0 n0 c0 l0 W g0).mono fun e W' ⟨he,bel⟩=>?_
 subst he
 exact⟨_,rfl,_,_,_,[],_,[],hW',trodAll_mk1 (shut_bool Tryz.underlying4 _),(trodAll_cons_mk (Below.trod laidOut (by kernel_rfl) (of_decide_eq_true (by kernel_rfl)) k0 bel lt0) trodAll_mk0),rfl,bel.frame _,fun h=>by cases h⟩

theorem over:Rows.fnContoursRow.holds Tryz.pinned (OpenSpec.ofChange Rows.fnContoursSpec) :=
 OpenClaim.holds_of_wide 3 Tryz.f3 rfl rfl rfl rfl rfl rfl rfl ⟨rfl,rfl,rfl,rfl,rfl⟩ rfl rfl rfl rfl rfl (by kernel_rfl) Tryz.func3 (by kernel_rfl)
  (of_decide_eq_true (by kernel_rfl)) (by unfold Func.isWrapper;first|(rw [if_pos (by decide +kernel)];kernel_rfl)|(rw [if_neg (by decide +kernel)];exact⟨rfl,rfl⟩))
  (fun os started H enc _=>lifted os started H enc)

theorem proved : Rows.FnContoursSaid := over
#print axioms proved
end Go.Proofs.YtadgmjdafkihfaaGreat.fnContours
