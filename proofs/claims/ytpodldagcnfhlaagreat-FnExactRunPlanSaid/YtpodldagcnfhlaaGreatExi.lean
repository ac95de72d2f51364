/-
  Exi
-/
import Derived.Test.YtpodldagcnfhlaaGreatExe
import Derived.Test.YtpodldagcnfhlaaGreatKeep
import Derived.Test.YtpodldagcnfhlaaGreatScn
import Derived.Test.YtpodldagcnfhlaaGreatMrj
import Derived.Test.YtpodldagcnfhlaaGreatSts
import Derived.Test.YtpodldagcnfhlaaGreatPii
namespace Go.Proofs.YtpodldagcnfhlaaGreat
open Go.RowKit
set_option linter.unusedVariables false
set_option linter.unusedSimpArgs false
set_option maxRecDepth 100000 in
set_option maxHeartbeats 1600000 in
theorem iExecuted_c (csd:List Value) (d:DatabaseD) (csq:List Value) (q:QueryD) (csp:List Value) (p:PlanD) (w:World) (hd:(rDatabase NB).rep w csd d) (hq:(rQuery NB).rep w csq q) (hp:(rPlan NB).rep w csp p) :
  Calls Tryz.prog 84 #[.agg csd.toArray,.agg csq.toArray,.agg csp.toArray] w (RetExI d q p w):=by
 have rd:=hd
 obtain⟨AdTables,ndTables,cdTables,rfl,hdTables⟩:=rDatabase_rep.1 hd
 clear hd
 have rq:=hq
 obtain⟨AqAtoms,nqAtoms,cqAtoms,rfl,hqVariableCount,hqAtoms⟩:=rQuery_rep.1 hq
 clear hq
 have rp:=hp
 obtain⟨ApSteps,npSteps,cpSteps,rfl,hpSteps⟩:=rPlan_rep.1 hp
 clear hp
 have hB:Below w.heap.size w w:=Below.refl _ _
 have hAd:=(Below.refl (World.heap (w)).size (w)).alloc (Nat.le_refl _) (.cells #[.slice AdTables ndTables cdTables] 26)
 replace hB:=hB.trans (hAd.mono hB.size)
 have bxd:=Bx.new (w) [.slice AdTables ndTables cdTables] 26
 clear hAd
 have hAq:=(Below.refl (World.heap ((w).alloc (.cells #[.slice AdTables ndTables cdTables] 26))).size ((w).alloc (.cells #[.slice AdTables ndTables cdTables] 26))).alloc (Nat.le_refl _) (.cells #[.int .i64 q.fVariableCount,.slice AqAtoms nqAtoms cqAtoms] 29)
 replace hB:=hB.trans (hAq.mono hB.size)
 replace bxd:=bxd.below hAq
 have bxq:=Bx.new ((w).alloc (.cells #[.slice AdTables ndTables cdTables] 26)) [.int .i64 q.fVariableCount,.slice AqAtoms nqAtoms cqAtoms] 29
 simp only [World.size_alloc]at bxq
 clear hAq
 have hAp:=(Below.refl (World.heap (((w).alloc (.cells #[.slice AdTables ndTables cdTables] 26)).alloc (.cells #[.int .i64 q.fVariableCount,.slice AqAtoms nqAtoms cqAtoms] 29))).size (((w).alloc (.cells #[.slice AdTables ndTables cdTables] 26)).alloc (.cells #[.int .i64 q.fVariableCount,.slice AqAtoms nqAtoms cqAtoms] 29))).alloc (Nat.le_refl _) (.cells #[.slice ApSteps npSteps cpSteps] 62)
 replace hB:=hB.trans (hAp.mono hB.size)
 replace bxd:=bxd.below hAp
 replace bxq:=bxq.below hAp
 have bxp:=Bx.new (((w).alloc (.cells #[.slice AdTables ndTables cdTables] 26)).alloc (.cells #[.int .i64 q.fVariableCount,.slice AqAtoms nqAtoms cqAtoms] 29)) [.slice ApSteps npSteps cpSteps] 62
 simp only [World.size_alloc]at bxp
 clear hAp
 have hnp:=hpSteps.bound
 have HLp:=Lib.hid hpSteps.len
 have hIz:=hB.size
 go_enter Tryz.func84,Tryz.ntmps84
 have kq_0:=bxq 0 _ rfl
 have kq_1:=bxq 1 _ rfl
 have kp_0:=bxp 0 _ rfl
 go_wp2_with fail
 refine(iPlanInfo_c _ q _ p _ ((rQuery_ok NB).keep rq (cells_below hB)) ((rPlan_ok NB).keep rp (cells_below hB))).mono ?_
 rintro e w1 ⟨AI,nI,cI,rfl,hI,hb1⟩
 replace hB:=hB.trans (hb1.mono hB.size)
 replace bxd:=bxd.below hb1
 replace bxq:=bxq.below hb1
 replace bxp:=bxp.below hb1
 clear hb1 kq_0 kq_1 kp_0
 obtain⟨b0,hb0⟩:∃ b,(planInfo q p).isSome=b:=⟨_,rfl⟩
 rw [hb0]
 cases hp:planInfo q p with
 | none =>
  have HX:=Lib.hid (execD_no1 (d:=d) hp)
  rw [hp]at hb0
  have hb1:b0=false:=hb0.symm
  subst hb1
  clear hp hb0
  go_wp2
  go_ret3
  exact⟨none,0,0,[],none,0,0,[],false,rfl,ExR.no HX.out _,MS.nil _ (Nat.zero_le _),MS.nil _ (Nat.zero_le _),hB⟩
 | some l =>
  rw [hp]at hb0 hI
  have hb1:b0=true:=hb0.symm
  subst hb1
  clear hb0
  have hIlen:=hI.len
  simp only [Option.getD_some]at hI hIlen
  have HP:=Lib.hid hp;clear hp
  have kd_0:=bxd 0 _ rfl
  have kq_0:=bxq 0 _ rfl
  have kq_1:=bxq 1 _ rfl
  go_wp2_with fail
  refine(iIsQueryFor_c _ d _ q _ ((rDatabase_ok NB).keep rd (cells_below hB)) ((rQuery_ok NB).keep rq (cells_below hB))).mono ?_
  rintro e w2 ⟨rfl,hb2⟩
  replace hB:=hB.trans (hb2.mono hB.size)
  replace bxd:=bxd.below hb2
  replace bxq:=bxq.below hb2
  replace bxp:=bxp.below hb2
  replace hI:=hI.below (rStepInfo_ok NB) hb2
  clear hb2 kd_0 kq_0 kq_1
  cases hd:queryFor d q
  ·have HX:=Lib.hid (execD_no2 (p:=p) hd)
   clear hd
   go_wp2
   go_ret3
   exact⟨none,0,0,[],none,0,0,[],false,rfl,ExR.no HX.out _,MS.nil _ (Nat.zero_le _),MS.nil _ (Nat.zero_le _),hB⟩
  obtain⟨EX,_,hp14⟩:=exec_parts hd HP.out
  have HX:=Lib.hid (execD_yes HP.out hd)
  clear hd
  obtain⟨L,hL⟩:∃ L,L=runSteps d q (p.fSteps.zip l):=⟨_,rfl⟩
  rw [<- hL]at EX HX
  clear hL
  have HE:=Lib.hid EX
  have hnI:nI=npSteps:=by rw [<- hIlen,EX.li,HLp.out]
  have hLn:Hid (L.length=npSteps):=by show _=_;rw [EX.lL,HLp.out]
  have hp14':npSteps<=14:=by rw [<- HLp.out];exact hp14
  clear EX hp14 hIlen
  subst hnI
  have hM0:MS w2.heap.size NB 35 (rStream NB) (w2.alloc (.cells #[] 35)) (some ⟨w2.heap.size,0,none⟩) 0 0 []:=MS.empty _ (Nat.le_refl _)
  have hA0:=(Below.refl w2.heap.size w2).alloc (Nat.le_refl _) (.cells #[] 35)
  have kp0:=(bxp.below hA0) 0 _ rfl
  go_wp2
  clear kp0
  go_loopw [11,34] (fun oL i wr=>∃ (k:Nat) (AL:Option Addr) (cL:Nat),k<=nI/\i=.int .i64 k/\oL=.slice AL k cL/\MS w2.heap.size NB 35 (rStream NB) wr AL k cL (L.take k)/\Below w2.heap.size w2 wr) (fun _ i _=>nI - (intOf i).toNat)
  case atStart=>exact⟨0,_,0,Nat.zero_le _,rfl,rfl,hM0,hA0⟩
  case round =>
   clear hM0 hA0
   obtain⟨k,AL,cL,hk,rfl,rfl,hM,hE⟩:=hrel
   have hB2:=hB.trans (hE.mono hB.size)
   by_cases hlt:k<nI
   ·obtain⟨b,off,x,rfl,hc0,hc1,hc2,i0,i1,i2,hx⟩:=hpSteps.ePlanStep hlt
    have HX1:=Lib.hid hx.out;clear hx
    replace hc0:=cells_below hB2 _ _ hc0
    replace hc1:=cells_below hB2 _ _ hc1
    replace hc2:=cells_below hB2 _ _ hc2
    obtain⟨b1,off1,y,rfl,d0,d1,d2,d3,_,_,_,_,hy⟩:=(hI.rs (rStepInfo_ok NB)).eStepInfo hlt
    have HY:=Lib.hid hy.out;clear hy
    replace d2:=cells_below hE _ _ d2
    replace d3:=cells_below hE _ _ d3
    clear d0 d1
    obtain⟨Hsh,s,hs,hLs⟩:=HE.out.step k x y HX1.out HY.out
    have HS:=Lib.hid hs;clear hs
    have HT:=Lib.hid (take_snoc hLs);clear hLs
    go_upto_region 9 with fail
    obtain⟨wx,hwx⟩:∃ W,W=wr.alloc (.cells #[.int .i64 x.fKind,.int .i64 x.fAtom,.int .i64 x.fOrder] 153):=⟨_,rfl⟩
    have bxx:=Bx.new wr [.int .i64 x.fKind,.int .i64 x.fAtom,.int .i64 x.fOrder] 153
    have hAx:=(Below.refl wr.heap.size wr).alloc (Nat.le_refl _) (.cells #[.int .i64 x.fKind,.int .i64 x.fAtom,.int .i64 x.fOrder] 153)
    have hsx:wx.heap.size=wr.heap.size+1:=by rw [hwx];simp
    rw [<- hwx]at hAx ⊢
    replace bxx:Bx wx wr.heap.size [.int .i64 x.fKind,.int .i64 x.fAtom,.int .i64 x.fOrder]:=by rw [hwx];exact bxx
    clear hwx hc0 hc1 hc2
    replace hM:=hM.below (rStream_ok NB) hAx
    replace hE:=hE.trans (hAx.mono hE.size)
    replace hB2:=hB2.trans (hAx.mono hB2.size)
    replace d2:=cells_below hAx _ _ d2
    replace d3:=cells_below hAx _ _ d3
    clear hAx
    rw [<- hsx]
    clear hsx
    have hzx:=hE.size
    obtain⟨wy,hwy⟩:∃ W,W=wx.alloc (.cells #[.slice none 0 0,.slice none 0 0] 35):=⟨_,rfl⟩
    have kS:=Bk.new wx [.slice none 0 0,.slice none 0 0] 35
    have hAy:=(Below.refl wx.heap.size wx).alloc (Nat.le_refl _) (.cells #[.slice none 0 0,.slice none 0 0] 35)
    have hsy:wx.heap.size<wy.heap.size:=by rw [hwy];simp
    rw [<- hwy]at hAy kS ⊢
    clear hwy
    have hC0:=hAy.drew
    cases Hsh with
    | scan hk1 j a hj ha hy =>
     have HR:=Lib.hid (run_scan HS.out hk1)
     have hB3:=hB2.trans (hC0.mono hB2.size)
     have kx_0:=(bxx.below hAy) 0 _ rfl
     have kx_1:=(bxx.below hAy) 1 _ rfl
     rw [hk1]at kx_0
     have kd_0:=(bxd.below (hE.trans (hAy.mono hE.size))) 0 _ rfl
     have kq_0:=(bxq.below (hE.trans (hAy.mono hE.size))) 0 _ rfl
     have kq_1:=(bxq.below (hE.trans (hAy.mono hE.size))) 1 _ rfl
     have hB4:=hB2.trans (hAy.mono hB2.size)
     clear hk1 hj ha hy
     go_wp2_with fail
     refine(iScanStream_c _ d _ q _ _ ((rDatabase_ok NB).keep rd (cells_below hB4)) ((rQuery_ok NB).keep rq (cells_below hB4))).mono ?_
     rintro e w4 hr
     obtain⟨cs,fp,rfl,o4,f4,hb4⟩:=RetVB.pair HR.out hr
     obtain⟨A1,n1,c1',A2,n2,c2',_,_,rfl,_⟩:=rStream_own.1 o4
     have hC:=hAy.trans (hb4.mono hAy.size)
     have kS4:=kS.below hb4
     clear hr kx_0 kx_1 kd_0 kq_0 kq_1
     obtain⟨r0,g0,r1,g1⟩:=kS4.r2
     go_upto_region 19 with fail
     clear r0 g0 r1 g1
     obtain⟨w5,hw5,kS5,o5,hE5,f5⟩:=ex_store (wy:=wy) kS4 hsy hC o4 f4
     rw [<- hw5]
     clear hw5 kS4 o4 f4 hC
     have c0:=kS5.bx 0 _ rfl
     have c1:=kS5.bx 1 _ rfl
     have hE6:=hE5.trans (((Below.refl w5.heap.size w5).alloc (Nat.le_refl _) (.cells #[.slice A1 n1 c1',.slice A2 n2 c2'] 35)).mono hE5.size)
     have HO:=Lib.hid ((rStream_ok NB).ownB o5 ((Below.refl w5.heap.size w5).alloc (Nat.le_refl _) (.cells #[.slice A1 n1 c1',.slice A2 n2 c2'] 35)))
     go_wp2_with (at_builtin;refine wpList_app (r:=rStream NB) rfl _ _ 125 rfl _ 48 eiStream (rStream_ok NB) rfl hM hE6 hzx ⟨w5.heap.size,0,none⟩ rfl fp [.slice A1 n1 c1',.slice A2 n2 c2'] s HO.out f5 (cells_new _ _ _) (by unfold NB;omega) (Nat.le_refl _) (by omega) ?_;intro AL' cL' w7 hM7 hb7 hg7)
     go_roundw
     case rel=>exact⟨k+1,AL',cL',hlt,by go_num,rfl,by rw [HT.out];exact hM7,(hE.trans (hE6.mono hE.size)).trans hb7⟩
     case measure=>simp [intOf];omega
    | sort hk2 j z hz hv hy =>
     have hjk:j<k:=by have:=lt_of_at hz;rw [List.length_take]at this;omega
     have hl2:y.fLeft=(j:Int):=by rw [hy]
     rw [hl2]at d2
     obtain⟨bL,oL,a,B1,m1,e1,B2,m2,e2,rfl,l0,l1,hra,ha⟩:=(hM.rs (rStream_ok NB)).eStream hjk
     have HR:=Lib.hid (run_sort HS.out hk2 hl2 ha.out)
     have HRA:=Lib.hid hra
     have kx_0:=(bxx.below hAy) 0 _ rfl
     rw [hk2]at kx_0
     clear hk2 hz hv hy hl2 ha hra
     have HSS:Hid (∀ w',Below wx.heap.size wx w'->(w'.cell? ⟨b1,off1+k*4+2,none⟩=some (.int .i64 j)/\w'.cell? ⟨bL,oL+j*2,none⟩=some (.slice B1 m1 e1)/\w'.cell? ⟨bL,oL+j*2+1,none⟩=some (.slice B2 m2 e2)/\w'.cell? ⟨wr.heap.size,2,none⟩=some (.int .i64 x.fOrder))):=by
      show ∀ w',_->_
      intro w' hb
      exact⟨cells_below hb _ _ d2,cells_below hb _ _ l0,cells_below hb _ _ l1,cells_below hb _ _ (bxx 2 _ rfl)⟩
     go_wp2
     refine hbg HSS.out hC0 (fun hHeld=>?_)
     refine tka 0 75 hHeld ?_;simp only [putS]
     refine tka 1 76 hHeld ?_;simp only [putS]
     refine tka 2 77 hHeld ?_;simp only [putS]
     refine tka 3 78 hHeld ?_;simp only [putS]
     refine tka 4 79 hHeld ?_;simp only [putS]
     refine tka 5 80 hHeld ?_;simp only [putS]
     refine tka 6 81 hHeld ?_;simp only [putS]
     refine tka 7 82 hHeld ?_;simp only [putS]
     refine tka 8 83 hHeld ?_;simp only [putS]
     refine tka 9 84 hHeld ?_;simp only [putS]
     refine YtpodldagcnfhlaaGreat.rd 10 (some 85) fun K hK=>?_
     clear hHeld
     go_simp
     refine(iSortStream_c _ a x.fOrder _ ((rStream_ok NB).keep HRA.out (cells_below hC0))).mono ?_
     rintro e w4 hr
     obtain⟨cs,fp,rfl,o4,f4,hb4⟩:=RetVB.pair HR.out hr
     obtain⟨A1,n1,c1',A2,n2,c2',_,_,rfl,_⟩:=rStream_own.1 o4
     have hC:=hC0.trans (hb4.mono hC0.size)
     have kS4:=kS.below ((Below.refl _ _).drew.trans hb4)
     go_wp2_with fail
     refine hK.out _ _ (HSS.out _ hC) (fun hHeld=>?_)
     clear hK K
     try simp only [putS]
     clear hr
     obtain⟨r0,g0,r1,g1⟩:=kS4.r2
     refine tka 11 74 hHeld ?_;simp only [putS]
     refine tka 12 86 hHeld ?_;simp only [putS]
     refine tka 13 87 hHeld ?_;simp only [putS]
     refine YtpodldagcnfhlaaGreat.rd 14 none fun K hK=>?_
     clear hHeld
     go_simp
     refine hK.out _ _ (HSS.out _ (bls2 hC (Nat.le_refl _) _ _)) (fun hHeld=>?_)
     clear hK K
     try simp only [putS]
     refine tka 15 15 hHeld ?_;simp only [putS]
     refine wpAnyH_done (by kernel_rfl) ?_ _
     clear hHeld
     clear HSS r0 g0 r1 g1
     obtain⟨w5,hw5,kS5,o5,hE5,f5⟩:=ex_store (wy:=wy) kS4 hsy hC o4 f4
     rw [<- hw5]
     clear hw5 kS4 o4 f4 hC
     have c0:=kS5.bx 0 _ rfl
     have c1:=kS5.bx 1 _ rfl
     have hE6:=hE5.trans (((Below.refl w5.heap.size w5).alloc (Nat.le_refl _) (.cells #[.slice A1 n1 c1',.slice A2 n2 c2'] 35)).mono hE5.size)
     have HO:=Lib.hid ((rStream_ok NB).ownB o5 ((Below.refl w5.heap.size w5).alloc (Nat.le_refl _) (.cells #[.slice A1 n1 c1',.slice A2 n2 c2'] 35)))
     go_wp2_with (at_builtin;refine wpList_app (r:=rStream NB) rfl _ _ 125 rfl _ 48 eiStream (rStream_ok NB) rfl hM hE6 hzx ⟨w5.heap.size,0,none⟩ rfl fp [.slice A1 n1 c1',.slice A2 n2 c2'] s HO.out f5 (cells_new _ _ _) (by unfold NB;omega) (Nat.le_refl _) (by omega) ?_;intro AL' cL' w7 hM7 hb7 hg7)
     go_roundw
     case rel=>exact⟨k+1,AL',cL',hlt,by go_num,rfl,by rw [HT.out];exact hM7,(hE.trans (hE6.mono hE.size)).trans hb7⟩
     case measure=>simp [intOf];omega
    | join hk3 i j z1 z2 hz1 hz2 h0 hm hl2 hr2 h3 h5 h4 =>
     have hik:i<k:=by have:=lt_of_at hz1;rw [List.length_take]at this;omega
     have hjk:j<k:=by have:=lt_of_at hz2;rw [List.length_take]at this;omega
     rw [hl2]at d2
     rw [hr2]at d3
     obtain⟨bL,oL,a,B1,m1,e1,B2,m2,e2,rfl,l0,l1,hra,ha⟩:=(hM.rs (rStream_ok NB)).eStream hik
     obtain⟨bL',oL',b',B3,m3,e3,B4,m4,e4,he,l2,l3,hrb,hb'⟩:=(hM.rs (rStream_ok NB)).eStream hjk
     injection he with he;injection he with he1 he2;subst he1;subst he2
     have HRA:=Lib.hid hra
     have HRB:=Lib.hid hrb
     clear hra hrb h0 hm h3 h5 h4 hz1 hz2
     have hk4:x.fKind=3\/x.fKind=4\/x.fKind=5:=by omega
     rcases hk4 with hk|hk|hk
     ·have HR:=Lib.hid (run_hash HS.out hk hl2 hr2 ha.out hb'.out)
      have kx_0:=(bxx.below hAy) 0 _ rfl
      rw [hk]at kx_0
      clear hk hl2 hr2 ha hb'
      have HSS:Hid (∀ w',Below wx.heap.size wx w'->(w'.cell? ⟨b1,off1+k*4+2,none⟩=some (.int .i64 i)/\w'.cell? ⟨b1,off1+k*4+3,none⟩=some (.int .i64 j)/\w'.cell? ⟨bL,oL+i*2,none⟩=some (.slice B1 m1 e1)/\w'.cell? ⟨bL,oL+i*2+1,none⟩=some (.slice B2 m2 e2)/\w'.cell? ⟨bL,oL+j*2,none⟩=some (.slice B3 m3 e3)/\w'.cell? ⟨bL,oL+j*2+1,none⟩=some (.slice B4 m4 e4))):=by
       show ∀ w',_->_
       intro w' hb
       exact⟨cells_below hb _ _ d2,cells_below hb _ _ d3,cells_below hb _ _ l0,cells_below hb _ _ l1,cells_below hb _ _ l2,cells_below hb _ _ l3⟩
      go_wp2
      refine hbg HSS.out hC0 (fun hHeld=>?_)
      refine tka 0 91 hHeld ?_;simp only [putS]
      refine tka 1 92 hHeld ?_;simp only [putS]
      refine tka 2 93 hHeld ?_;simp only [putS]
      refine tka 3 94 hHeld ?_;simp only [putS]
      refine tka 4 95 hHeld ?_;simp only [putS]
      refine tka 5 96 hHeld ?_;simp only [putS]
      refine tka 6 97 hHeld ?_;simp only [putS]
      refine tka 7 98 hHeld ?_;simp only [putS]
      refine tka 8 99 hHeld ?_;simp only [putS]
      refine tka 9 100 hHeld ?_;simp only [putS]
      refine tka 10 101 hHeld ?_;simp only [putS]
      refine tka 11 102 hHeld ?_;simp only [putS]
      refine tka 12 103 hHeld ?_;simp only [putS]
      refine tka 13 104 hHeld ?_;simp only [putS]
      refine tka 14 105 hHeld ?_;simp only [putS]
      refine tka 15 106 hHeld ?_;simp only [putS]
      refine YtpodldagcnfhlaaGreat.rd 16 (some 107) fun K hK=>?_
      clear hHeld
      go_simp
      refine(iHashJoin_c _ a _ b' _ ((rStream_ok NB).keep HRA.out (cells_below hC0)) ((rStream_ok NB).keep HRB.out (cells_below hC0))).mono ?_
      rintro e w4 hr
      obtain⟨cs,fp,rfl,o4,f4,hb4⟩:=RetVB.pair HR.out hr
      obtain⟨A1,n1,c1',A2,n2,c2',_,_,rfl,_⟩:=rStream_own.1 o4
      have hC:=hC0.trans (hb4.mono hC0.size)
      have kS4:=kS.below ((Below.refl _ _).drew.trans hb4)
      go_wp2_with fail
      refine hK.out _ _ (HSS.out _ hC) (fun hHeld=>?_)
      clear hK K
      try simp only [putS]
      clear hr
      obtain⟨r0,g0,r1,g1⟩:=kS4.r2
      refine tka 17 90 hHeld ?_;simp only [putS]
      refine tka 18 108 hHeld ?_;simp only [putS]
      refine tka 19 109 hHeld ?_;simp only [putS]
      refine YtpodldagcnfhlaaGreat.rd 20 none fun K hK=>?_
      clear hHeld
      go_simp
      refine hK.out _ _ (HSS.out _ (bls2 hC (Nat.le_refl _) _ _)) (fun hHeld=>?_)
      clear hK K
      try simp only [putS]
      refine tka 21 15 hHeld ?_;simp only [putS]
      refine wpAnyH_done (by kernel_rfl) ?_ _
      clear hHeld
      clear HSS r0 g0 r1 g1
      obtain⟨w5,hw5,kS5,o5,hE5,f5⟩:=ex_store (wy:=wy) kS4 hsy hC o4 f4
      rw [<- hw5]
      clear hw5 kS4 o4 f4 hC
      have c0:=kS5.bx 0 _ rfl
      have c1:=kS5.bx 1 _ rfl
      have hE6:=hE5.trans (((Below.refl w5.heap.size w5).alloc (Nat.le_refl _) (.cells #[.slice A1 n1 c1',.slice A2 n2 c2'] 35)).mono hE5.size)
      have HO:=Lib.hid ((rStream_ok NB).ownB o5 ((Below.refl w5.heap.size w5).alloc (Nat.le_refl _) (.cells #[.slice A1 n1 c1',.slice A2 n2 c2'] 35)))
      go_wp2_with (at_builtin;refine wpList_app (r:=rStream NB) rfl _ _ 125 rfl _ 48 eiStream (rStream_ok NB) rfl hM hE6 hzx ⟨w5.heap.size,0,none⟩ rfl fp [.slice A1 n1 c1',.slice A2 n2 c2'] s HO.out f5 (cells_new _ _ _) (by unfold NB;omega) (Nat.le_refl _) (by omega) ?_;intro AL' cL' w7 hM7 hb7 hg7)
      go_roundw
      case rel=>exact⟨k+1,AL',cL',hlt,by go_num,rfl,by rw [HT.out];exact hM7,(hE.trans (hE6.mono hE.size)).trans hb7⟩
      case measure=>simp [intOf];omega
     ·have HR:=Lib.hid (run_merge HS.out hk hl2 hr2 ha.out hb'.out)
      have kx_0:=(bxx.below hAy) 0 _ rfl
      rw [hk]at kx_0
      clear hk hl2 hr2 ha hb'
      have HSS:Hid (∀ w',Below wx.heap.size wx w'->(w'.cell? ⟨b1,off1+k*4+2,none⟩=some (.int .i64 i)/\w'.cell? ⟨b1,off1+k*4+3,none⟩=some (.int .i64 j)/\w'.cell? ⟨bL,oL+i*2,none⟩=some (.slice B1 m1 e1)/\w'.cell? ⟨bL,oL+i*2+1,none⟩=some (.slice B2 m2 e2)/\w'.cell? ⟨bL,oL+j*2,none⟩=some (.slice B3 m3 e3)/\w'.cell? ⟨bL,oL+j*2+1,none⟩=some (.slice B4 m4 e4)/\w'.cell? ⟨wr.heap.size,2,none⟩=some (.int .i64 x.fOrder))):=by
       show ∀ w',_->_
       intro w' hb
       exact⟨cells_below hb _ _ d2,cells_below hb _ _ d3,cells_below hb _ _ l0,cells_below hb _ _ l1,cells_below hb _ _ l2,cells_below hb _ _ l3,cells_below hb _ _ (bxx 2 _ rfl)⟩
      go_wp2
      refine hbg HSS.out hC0 (fun hHeld=>?_)
      refine tka 0 113 hHeld ?_;simp only [putS]
      refine tka 1 114 hHeld ?_;simp only [putS]
      refine tka 2 115 hHeld ?_;simp only [putS]
      refine tka 3 116 hHeld ?_;simp only [putS]
      refine tka 4 117 hHeld ?_;simp only [putS]
      refine tka 5 118 hHeld ?_;simp only [putS]
      refine tka 6 119 hHeld ?_;simp only [putS]
      refine tka 7 120 hHeld ?_;simp only [putS]
      refine tka 8 121 hHeld ?_;simp only [putS]
      refine tka 9 122 hHeld ?_;simp only [putS]
      refine tka 10 123 hHeld ?_;simp only [putS]
      refine tka 11 124 hHeld ?_;simp only [putS]
      refine tka 12 125 hHeld ?_;simp only [putS]
      refine tka 13 126 hHeld ?_;simp only [putS]
      refine tka 14 127 hHeld ?_;simp only [putS]
      refine tka 15 128 hHeld ?_;simp only [putS]
      refine tka 16 129 hHeld ?_;simp only [putS]
      refine tka 17 130 hHeld ?_;simp only [putS]
      refine YtpodldagcnfhlaaGreat.rd 18 (some 131) fun K hK=>?_
      clear hHeld
      go_simp
      refine(iMergeJoin_c _ a _ b' x.fOrder _ ((rStream_ok NB).keep HRA.out (cells_below hC0)) ((rStream_ok NB).keep HRB.out (cells_below hC0))).mono ?_
      rintro e w4 hr
      obtain⟨cs,fp,rfl,o4,f4,hb4⟩:=RetVB.pair HR.out hr
      obtain⟨A1,n1,c1',A2,n2,c2',_,_,rfl,_⟩:=rStream_own.1 o4
      have hC:=hC0.trans (hb4.mono hC0.size)
      have kS4:=kS.below ((Below.refl _ _).drew.trans hb4)
      go_wp2_with fail
      refine hK.out _ _ (HSS.out _ hC) (fun hHeld=>?_)
      clear hK K
      try simp only [putS]
      clear hr
      obtain⟨r0,g0,r1,g1⟩:=kS4.r2
      refine tka 19 112 hHeld ?_;simp only [putS]
      refine tka 20 132 hHeld ?_;simp only [putS]
      refine tka 21 133 hHeld ?_;simp only [putS]
      refine YtpodldagcnfhlaaGreat.rd 22 none fun K hK=>?_
      clear hHeld
      go_simp
      refine hK.out _ _ (HSS.out _ (bls2 hC (Nat.le_refl _) _ _)) (fun hHeld=>?_)
      clear hK K
      try simp only [putS]
      refine tka 23 15 hHeld ?_;simp only [putS]
      refine wpAnyH_done (by kernel_rfl) ?_ _
      clear hHeld
      clear HSS r0 g0 r1 g1
      obtain⟨w5,hw5,kS5,o5,hE5,f5⟩:=ex_store (wy:=wy) kS4 hsy hC o4 f4
      rw [<- hw5]
      clear hw5 kS4 o4 f4 hC
      have c0:=kS5.bx 0 _ rfl
      have c1:=kS5.bx 1 _ rfl
      have hE6:=hE5.trans (((Below.refl w5.heap.size w5).alloc (Nat.le_refl _) (.cells #[.slice A1 n1 c1',.slice A2 n2 c2'] 35)).mono hE5.size)
      have HO:=Lib.hid ((rStream_ok NB).ownB o5 ((Below.refl w5.heap.size w5).alloc (Nat.le_refl _) (.cells #[.slice A1 n1 c1',.slice A2 n2 c2'] 35)))
      go_wp2_with (at_builtin;refine wpList_app (r:=rStream NB) rfl _ _ 125 rfl _ 48 eiStream (rStream_ok NB) rfl hM hE6 hzx ⟨w5.heap.size,0,none⟩ rfl fp [.slice A1 n1 c1',.slice A2 n2 c2'] s HO.out f5 (cells_new _ _ _) (by unfold NB;omega) (Nat.le_refl _) (by omega) ?_;intro AL' cL' w7 hM7 hb7 hg7)
      go_roundw
      case rel=>exact⟨k+1,AL',cL',hlt,by go_num,rfl,by rw [HT.out];exact hM7,(hE.trans (hE6.mono hE.size)).trans hb7⟩
      case measure=>simp [intOf];omega
     ·have HR:=Lib.hid (run_nest HS.out hk hl2 hr2 ha.out hb'.out)
      have kx_0:=(bxx.below hAy) 0 _ rfl
      rw [hk]at kx_0
      clear hk hl2 hr2 ha hb'
      have HSS:Hid (∀ w',Below wx.heap.size wx w'->(w'.cell? ⟨b1,off1+k*4+2,none⟩=some (.int .i64 i)/\w'.cell? ⟨b1,off1+k*4+3,none⟩=some (.int .i64 j)/\w'.cell? ⟨bL,oL+i*2,none⟩=some (.slice B1 m1 e1)/\w'.cell? ⟨bL,oL+i*2+1,none⟩=some (.slice B2 m2 e2)/\w'.cell? ⟨bL,oL+j*2,none⟩=some (.slice B3 m3 e3)/\w'.cell? ⟨bL,oL+j*2+1,none⟩=some (.slice B4 m4 e4))):=by
       show ∀ w',_->_
       intro w' hb
       exact⟨cells_below hb _ _ d2,cells_below hb _ _ d3,cells_below hb _ _ l0,cells_below hb _ _ l1,cells_below hb _ _ l2,cells_below hb _ _ l3⟩
      go_wp2
      refine hbg HSS.out hC0 (fun hHeld=>?_)
      refine tka 0 43 hHeld ?_;simp only [putS]
      refine tka 1 44 hHeld ?_;simp only [putS]
      refine tka 2 45 hHeld ?_;simp only [putS]
      refine tka 3 46 hHeld ?_;simp only [putS]
      refine tka 4 47 hHeld ?_;simp only [putS]
      refine tka 5 48 hHeld ?_;simp only [putS]
      refine tka 6 49 hHeld ?_;simp only [putS]
      refine tka 7 50 hHeld ?_;simp only [putS]
      refine tka 8 51 hHeld ?_;simp only [putS]
      refine tka 9 52 hHeld ?_;simp only [putS]
      refine tka 10 53 hHeld ?_;simp only [putS]
      refine tka 11 54 hHeld ?_;simp only [putS]
      refine tka 12 55 hHeld ?_;simp only [putS]
      refine tka 13 56 hHeld ?_;simp only [putS]
      refine tka 14 57 hHeld ?_;simp only [putS]
      refine tka 15 58 hHeld ?_;simp only [putS]
      refine YtpodldagcnfhlaaGreat.rd 16 (some 59) fun K hK=>?_
      clear hHeld
      go_simp
      refine(iNestedJoin_c _ a _ b' _ ((rStream_ok NB).keep HRA.out (cells_below hC0)) ((rStream_ok NB).keep HRB.out (cells_below hC0))).mono ?_
      rintro e w4 hr
      obtain⟨cs,fp,rfl,o4,f4,hb4⟩:=RetVB.pair HR.out hr
      obtain⟨A1,n1,c1',A2,n2,c2',_,_,rfl,_⟩:=rStream_own.1 o4
      have hC:=hC0.trans (hb4.mono hC0.size)
      have kS4:=kS.below ((Below.refl _ _).drew.trans hb4)
      go_wp2_with fail
      refine hK.out _ _ (HSS.out _ hC) (fun hHeld=>?_)
      clear hK K
      try simp only [putS]
      clear hr
      obtain⟨r0,g0,r1,g1⟩:=kS4.r2
      refine tka 17 42 hHeld ?_;simp only [putS]
      refine tka 18 60 hHeld ?_;simp only [putS]
      refine tka 19 61 hHeld ?_;simp only [putS]
      refine YtpodldagcnfhlaaGreat.rd 20 none fun K hK=>?_
      clear hHeld
      go_simp
      refine hK.out _ _ (HSS.out _ (bls2 hC (Nat.le_refl _) _ _)) (fun hHeld=>?_)
      clear hK K
      try simp only [putS]
      refine tka 21 15 hHeld ?_;simp only [putS]
      refine wpAnyH_done (by kernel_rfl) ?_ _
      clear hHeld
      clear HSS r0 g0 r1 g1
      obtain⟨w5,hw5,kS5,o5,hE5,f5⟩:=ex_store (wy:=wy) kS4 hsy hC o4 f4
      rw [<- hw5]
      clear hw5 kS4 o4 f4 hC
      have c0:=kS5.bx 0 _ rfl
      have c1:=kS5.bx 1 _ rfl
      have hE6:=hE5.trans (((Below.refl w5.heap.size w5).alloc (Nat.le_refl _) (.cells #[.slice A1 n1 c1',.slice A2 n2 c2'] 35)).mono hE5.size)
      have HO:=Lib.hid ((rStream_ok NB).ownB o5 ((Below.refl w5.heap.size w5).alloc (Nat.le_refl _) (.cells #[.slice A1 n1 c1',.slice A2 n2 c2'] 35)))
      go_wp2_with (at_builtin;refine wpList_app (r:=rStream NB) rfl _ _ 125 rfl _ 48 eiStream (rStream_ok NB) rfl hM hE6 hzx ⟨w5.heap.size,0,none⟩ rfl fp [.slice A1 n1 c1',.slice A2 n2 c2'] s HO.out f5 (cells_new _ _ _) (by unfold NB;omega) (Nat.le_refl _) (by omega) ?_;intro AL' cL' w7 hM7 hb7 hg7)
      go_roundw
      case rel=>exact⟨k+1,AL',cL',hlt,by go_num,rfl,by rw [HT.out];exact hM7,(hE.trans (hE6.mono hE.size)).trans hb7⟩
      case measure=>simp [intOf];omega
   ·obtain rfl:k=nI:=by omega
    have HTk:Hid (L.take k=L):=by show _=_;rw [<- hLn.out];exact List.take_length
    rw [HTk.out]at hM
    go_wp2
    go_ret3
    exact⟨_,_,_,_,_,_,_,_,true,rfl,ExR.yes HX.out,(hI.below (rStepInfo_ok NB) hE).base hIz,hM.base hB.size,hB2⟩
end Go.Proofs.YtpodldagcnfhlaaGreat
