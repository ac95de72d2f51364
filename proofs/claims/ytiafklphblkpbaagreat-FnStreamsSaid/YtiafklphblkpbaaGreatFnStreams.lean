/-
  FnStreams
-/
import Derived.Test.YtiafklphblkpbaaGreatRows
import Derived.Test.YtiafklphblkpbaaGreatKeep
import Derived.Test.YtiafklphblkpbaaGreatPar
import Derived.Test.YtiafklphblkpbaaGreatScg
import Derived.Test.YtiafklphblkpbaaGreatScn
import Derived.Test.YtiafklphblkpbaaGreatScs
import Derived.Test.YtiafklphblkpbaaGreatSts
import Derived.Test.YtiafklphblkpbaaGreatEst
import Derived.Test.YtiafklphblkpbaaGreatOpens
import Derived.WalkKit
import Derived.ProofKit
import Derived.OpenShut
import Derived.ChangeOld
import Derived.Below
import Derived.Deep.RegionHeld3
namespace Go.Proofs.YtiafklphblkpbaaGreat.fnStreams
open Go.ChangeShapes Go.WideShapes Go.ChangeAt Go.RowKit
set_option linter.unusedVariables false
set_option linter.unusedSimpArgs false

theorem own:ownKnob Tryz.prog.godebug=none:=by kernel_rfl
theorem laidOut:laidOutB Tryz.prog=true:=by kernel_rfl
theorem opens_byte {P:Program}{t:TypeId}(ht:P.underlying t=some (.int .u8)):Opens P t rByte:=by
 intro H enc w base spare held fuel cs x h
 obtain⟨n,rfl,_,hw⟩:=DataW.trod_int ht h
 exact⟨n,rfl,bounds_u8 hw⟩
theorem big_c (A:Option Addr) (n cap:Nat) (w:World):Calls Tryz.prog 5 #[.slice A n cap] w fun e w'=>e=.returned (.bool (decide (1048576<n)))/\w=w':=by
 by_cases h:(1048576:Int)<n
 ·go_enter Tryz.func5,Tryz.ntmps5
  go_wp2
  go_ret
  exact⟨ret_bool (by simp;omega),rfl⟩
 ·go_enter Tryz.func5,Tryz.ntmps5
  go_wp2
  go_ret
  exact⟨ret_bool (by simp;omega),rfl⟩

theorem scan_ok {d:DatabaseD}{q:QueryD}{i:Int}(h:(scan d q i).2=true):∃ (k:Nat) (a:AtomD),i=k/\q.fAtoms[k]?=some a/\queryFor d q=true:=by
 cases h1:queryFor d q with
 | false=>rw [scan_no1 h1]at h;cases h
 | true =>
  cases h2:inR i 0 ((q.fAtoms.length:Int) - 1) with
  | false=>rw [scan_no2 h2]at h;cases h
  | true =>
   have:=inR_t.1 h2
   exact⟨i.toNat,q.fAtoms[i.toNat]'(by omega),by omega,List.getElem?_eq_getElem _,rfl⟩
theorem repS {w:World}{cs:List Value}{x:StreamD}(h:(rStream NB).rep w cs x):∃ A n c B m e,cs=[.slice A n c,.slice B m e]/\RS NB (rSlice NB 3 rInt) w B m e x.fRows:=by
 obtain⟨A,n,c,B,m,e,h1,_,h2⟩:=rStream_rep.1 h;exact⟨A,n,c,B,m,e,h1,h2⟩
set_option maxRecDepth 100000 in
set_option maxHeartbeats 4000000 in
theorem walk (A:Option Addr) (n cap:Nat) (l:List Int) (w:World) (r0:RS maxLen rByte w A n cap l) :
  Calls Tryz.prog 4 #[.slice A n cap] w fun e w'=>e=.returned (.bool true)/\Below w.heap.size w w':=by
 by_cases hsz:n<=1048576
 rotate_left
 ·have hd:decide (1048576<n)=true:=by simp;omega
  go_enter Tryz.func4,Tryz.ntmps4
  go_wp2_with (go_at_call 5;refine(big_c _ _ _ _).mono ?_;rintro e w' ⟨rfl,rfl⟩)
  go_ret
  exact⟨rfl,Below.refl _ _⟩
 have hd:decide (1048576<n)=false:=by simp;omega
 have hr:=smallB r0 hsz
 clear r0
 go_enter Tryz.func4,Tryz.ntmps4
 go_wp2_with (go_at_call 5;refine(big_c _ _ _ _).mono ?_;rintro e w' ⟨rfl,rfl⟩)
 clear hd
 refine(drawScan_c _ _ _ _ _ hr).mono ?_
 rintro e w1 ⟨d,q,i,Ad,nd,cd,vc,Aq,nq,cq,rfl,rD,rQ,hI,hB⟩
 replace hr:=hr.below rByte_ok hB
 obtain⟨w2,hw2⟩:∃ W,W=w1.alloc (.cells #[.slice Ad nd cd] 43):=⟨_,rfl⟩
 have hb_w2:Below w1.heap.size w1 w2:=by rw [hw2];exact(Below.refl w1.heap.size w1).alloc (Nat.le_refl _) _
 replace hB:=hB.trans (hb_w2.mono hB.size)
 replace hr:=hr.below rByte_ok hb_w2
 replace rD:=(rDatabase_ok NB).keep rD (cells_below hb_w2)
 replace rQ:=(rQuery_ok NB).keep rQ (cells_below hb_w2)
 clear hb_w2
 have kD:Bk w2 w1.heap.size 43 [.slice Ad nd cd]:=by rw [hw2];exact Bk.new w1 _ _
 obtain⟨w3,hw3⟩:∃ W,W=w2.alloc (.cells #[.int .i64 vc,.slice Aq nq cq] 46):=⟨_,rfl⟩
 have hb_w3:Below w2.heap.size w2 w3:=by rw [hw3];exact(Below.refl w2.heap.size w2).alloc (Nat.le_refl _) _
 replace hB:=hB.trans (hb_w3.mono hB.size)
 replace hr:=hr.below rByte_ok hb_w3
 replace rD:=(rDatabase_ok NB).keep rD (cells_below hb_w3)
 replace rQ:=(rQuery_ok NB).keep rQ (cells_below hb_w3)
 replace kD:=kD.below hb_w3
 clear hb_w3
 have kQ:Bk w3 w2.heap.size 46 [.int .i64 vc,.slice Aq nq cq]:=by rw [hw3];exact Bk.new w2 _ _
 have hs2:w2.heap.size=w1.heap.size+1:=by rw [hw2];simp
 rw [hs2]at kQ
 go_upto_region 4 with fail
 rw [<- hw2,<- hw3]
 clear hw2 hw3 hs2
 obtain⟨s,b,HS⟩:∃ s b,Hid (scan d q i=(s,b)):=⟨_,_,rfl⟩
 have ckD_0:=kD.bx 0 _ rfl
 have ckQ_0:=kQ.bx 0 _ rfl
 have ckQ_1:=kQ.bx 1 _ rfl
 go_wp2_with fail
 have C:=iScanStream_c _ d _ q i _ rD rQ
 rw [HS.out]at C
 refine C.mono ?_
 clear C
 rintro e w4 ⟨cs,fp,rfl,oX,frX,hb4⟩
 obtain⟨A1,n1,c1,A2,n2,c2,f5,f6,rfl,rfl,_,_⟩:=rStream_own.1 oX
 have rS:=(rStream_ok NB).toRep oX
 clear oX frX
 replace hB:=hB.trans (hb4.mono hB.size)
 replace hr:=hr.below rByte_ok hb4
 replace rD:=(rDatabase_ok NB).keep rD (cells_below hb4)
 replace rQ:=(rQuery_ok NB).keep rQ (cells_below hb4)
 replace kD:=kD.below hb4
 replace kQ:=kQ.below hb4
 clear hb4 ckD_0 ckQ_0 ckQ_1
 obtain⟨w5,hw5⟩:∃ W,W=w4.alloc (.cells #[.slice A1 n1 c1,.slice A2 n2 c2] 51):=⟨_,rfl⟩
 have hb_w5:Below w4.heap.size w4 w5:=by rw [hw5];exact(Below.refl w4.heap.size w4).alloc (Nat.le_refl _) _
 replace hB:=hB.trans (hb_w5.mono hB.size)
 replace hr:=hr.below rByte_ok hb_w5
 replace rD:=(rDatabase_ok NB).keep rD (cells_below hb_w5)
 replace rQ:=(rQuery_ok NB).keep rQ (cells_below hb_w5)
 replace kD:=kD.below hb_w5
 replace kQ:=kQ.below hb_w5
 replace rS:=(rStream_ok NB).keep rS (cells_below hb_w5)
 clear hb_w5
 have kS:Bk w5 w4.heap.size 51 [.slice A1 n1 c1,.slice A2 n2 c2]:=by rw [hw5];exact Bk.new w4 _ _
 go_upto_region 5 with fail
 rw [<- hw5]
 clear hw5
 have ckD_0:=kD.bx 0 _ rfl
 have ckQ_0:=kQ.bx 0 _ rfl
 have ckQ_1:=kQ.bx 1 _ rfl
 go_wp2_with fail
 have C:=sScanStream_c _ d _ q i _ rD rQ
 rw [HS.out]at C
 refine C.mono ?_
 clear C
 rintro e w6 ⟨cs,fp,rfl,oX,frX,hb6⟩
 obtain⟨A3,n3,c3,A4,n4,c4,f5,f6,rfl,rfl,_,_⟩:=rStream_own.1 oX
 have rX:=(rStream_ok NB).toRep oX
 clear oX frX
 replace hB:=hB.trans (hb6.mono hB.size)
 replace hr:=hr.below rByte_ok hb6
 replace rD:=(rDatabase_ok NB).keep rD (cells_below hb6)
 replace rQ:=(rQuery_ok NB).keep rQ (cells_below hb6)
 replace kD:=kD.below hb6
 replace kQ:=kQ.below hb6
 replace rS:=(rStream_ok NB).keep rS (cells_below hb6)
 replace kS:=kS.below hb6
 clear hb6 ckD_0 ckQ_0 ckQ_1
 obtain⟨w7,hw7⟩:∃ W,W=w6.alloc (.cells #[.slice A3 n3 c3,.slice A4 n4 c4] 51):=⟨_,rfl⟩
 have hb_w7:Below w6.heap.size w6 w7:=by rw [hw7];exact(Below.refl w6.heap.size w6).alloc (Nat.le_refl _) _
 replace hB:=hB.trans (hb_w7.mono hB.size)
 replace hr:=hr.below rByte_ok hb_w7
 replace rD:=(rDatabase_ok NB).keep rD (cells_below hb_w7)
 replace rQ:=(rQuery_ok NB).keep rQ (cells_below hb_w7)
 replace kD:=kD.below hb_w7
 replace kQ:=kQ.below hb_w7
 replace rS:=(rStream_ok NB).keep rS (cells_below hb_w7)
 replace kS:=kS.below hb_w7
 replace rX:=(rStream_ok NB).keep rX (cells_below hb_w7)
 clear hb_w7
 have kX:Bk w7 w6.heap.size 51 [.slice A3 n3 c3,.slice A4 n4 c4]:=by rw [hw7];exact Bk.new w6 _ _
 go_upto_region 6 with fail
 rw [<- hw7]
 clear hw7
 have hqq:(b != b)=false:=by simp
 have ckS_0:=kS.bx 0 _ rfl
 have ckS_1:=kS.bx 1 _ rfl
 have ckX_0:=kX.bx 0 _ rfl
 have ckX_1:=kX.bx 1 _ rfl
 go_wp2_with fail
 refine(iEqualStreams_c _ _ s s _ rS rX).mono ?_
 rintro e w8 ⟨rfl,hb8⟩
 replace hB:=hB.trans (hb8.mono hB.size)
 replace hr:=hr.below rByte_ok hb8
 replace rD:=(rDatabase_ok NB).keep rD (cells_below hb8)
 replace rQ:=(rQuery_ok NB).keep rQ (cells_below hb8)
 replace kD:=kD.below hb8
 replace kQ:=kQ.below hb8
 replace rS:=(rStream_ok NB).keep rS (cells_below hb8)
 replace kS:=kS.below hb8
 replace rX:=(rStream_ok NB).keep rX (cells_below hb8)
 replace kX:=kX.below hb8
 clear hb8 ckS_0 ckS_1 ckX_0 ckX_1
 clear rX kX rD kD hqq
 have hdd:decide (s=s)=true:=by simp
 cases b
 focus
  go_upto_region 8 with fail
  go_quiet (fail)
  obtain⟨w9,hw9⟩:∃ W,W=w8.drewN nq:=⟨_,rfl⟩
  have hb9:Below w8.heap.size w8 w9:=by rw [hw9];exact below_drewN (Below.refl _ _) _
  rw [<- hw9]
  clear hw9 HS hdd kS rS rQ kQ
  replace hr:=hr.below rByte_ok hb9
  replace hB:=hB.trans (hb9.mono hB.size)
  clear hb9
  go_upto_region 10 with fail
  obtain⟨wr,rfl⟩:∃ z,z=w9:=⟨_,rfl⟩
 rotate_left
 focus
  obtain⟨k,a,rfl,ha,hqf⟩:=scan_ok (by rw [HS.out])
  have hap:=atomOk_parts ((validQ_parts (queryFor_parts hqf).1).2.2.2.2.1 a (mem_of_at ha))
  obtain⟨Aq',nq',cq',ee,hvc,hat⟩:=rQuery_rep.1 rQ
  injection ee with e1 ee
  injection ee with e2 _
  injection e2 with e2 e3 e4
  subst e2 e3 e4
  clear e1
  have hk:k<nq:=by have:=hat.len;have:=lt_of_at ha;omega
  obtain⟨b,off,a',Av,nv,cv,rfl,hc0,hc1,_,hva,hx⟩:=hat.eAtom hk
  obtain rfl:a'=a:=by have:=hx.out;rw [ha]at this;injection this with this;exact this.symm
  have hv0:0<nv:=by have:=hva.len;omega
  obtain⟨bv,ov,v,rfl,hcv,_,hxv⟩:=hva.ati hv0
  rw [Nat.add_zero]at hcv
  have hsr:=scan_srt hqf ha
  rw [HS.out]at hsr
  have h0:((a'.fVars[0]?).getD 0)=v:=by rw [hxv.out];rfl
  rw [h0]at hsr
  have K1:Hid (∀ W,Below w8.heap.size w8 W->Calls Tryz.prog 23 #[.agg #[.slice A1 n1 c1,.slice A2 n2 c2],.int .i64 v] W fun e w'=>e=.returned (.bool true)/\Below W.heap.size W w'):=by
   show ∀ W,_->_
   intro W hW
   have C:=iIsSortedStream_c _ s v W ((rStream_ok NB).keep rS (cells_below hW))
   rw [hsr.2.2.1]at C
   exact C
  have HSS:Hid (∀ w',Below w8.heap.size w8 w'->(w'.cell? ⟨w4.heap.size,0,none⟩=some (.slice A1 n1 c1)/\w'.cell? ⟨w4.heap.size,1,none⟩=some (.slice A2 n2 c2)/\w'.cell? ⟨w1.heap.size+1,1,none⟩=some (.slice (some ⟨b,off,none⟩) nq cq)/\w'.cell? ⟨b,off+k*2+1,none⟩=some (.slice (some ⟨bv,ov,none⟩) nv cv)/\w'.cell? ⟨bv,ov,none⟩=some (.int .i64 v))):=by
   show ∀ w',_->_
   intro w' hb
   have bs:=(kS.below hb).bx
   have bq:=(kQ.below hb).bx
   exact⟨bs 0 _ rfl,bs 1 _ rfl,bq 1 _ rfl,cells_below hb _ _ hc1,cells_below hb _ _ hcv⟩
  have hd0:=(Below.refl w8.heap.size w8).drew
  clear hsr h0 hxv hcv hc0 hc1 hva hx hat ha hqf hap HS
  go_upto_region 8 with fail
  refine hbg HSS.out hd0 (fun hHeld=>?_)
  refine tka 0 47 hHeld ?_;simp only [putS]
  refine tka 1 48 hHeld ?_;simp only [putS]
  refine tka 2 49 hHeld ?_;simp only [putS]
  refine tka 3 50 hHeld ?_;simp only [putS]
  refine tka 4 51 hHeld ?_;simp only [putS]
  refine tka 5 52 hHeld ?_;simp only [putS]
  refine tka 6 53 hHeld ?_;simp only [putS]
  refine tka 7 54 hHeld ?_;simp only [putS]
  refine tka 8 55 hHeld ?_;simp only [putS]
  refine tka 9 56 hHeld ?_;simp only [putS]
  refine tka 10 57 hHeld ?_;simp only [putS]
  refine rd 11 (some 58) fun K hK=>?_
  clear hHeld
  go_simp
  refine(K1.out _ hd0).mono ?_
  rintro e wr ⟨rfl,hb5⟩
  have hC5:=hd0.trans (hb5.mono hd0.size)
  go_wp2_with fail
  refine hK.out _ _ (HSS.out _ hC5) (fun hHeld=>?_)
  clear hK K
  try simp only [putS]
  refine tka 12 59 hHeld ?_;simp only [putS]
  refine tka 13 60 hHeld ?_;simp only [putS]
  refine wpAnyH_done (by kernel_rfl) ?_ _
  clear hHeld
  clear HSS K1 hdd kS rS rQ kQ hd0 hb5
  replace hr:=hr.below rByte_ok hC5
  replace hB:=hB.trans (hC5.mono hB.size)
  clear hC5
  go_upto_region 10 with fail
 all_goals
  go_wp2_with fail
  refine(drawSort_c _ _ _ _ _ hr).mono ?_
  rintro e w9 ⟨y,v,B1,m1,d1,B2,m2,d2,rfl,rY,hI,hb9⟩
  replace hB:=hB.trans (hb9.mono hB.size)
  clear hr hb9
  obtain⟨w10,hw10⟩:∃ W,W=w9.alloc (.cells #[.slice B1 m1 d1,.slice B2 m2 d2] 51):=⟨_,rfl⟩
  have hb_w10:Below w9.heap.size w9 w10:=by rw [hw10];exact(Below.refl w9.heap.size w9).alloc (Nat.le_refl _) _
  replace hB:=hB.trans (hb_w10.mono hB.size)
  replace rY:=(rStream_ok NB).keep rY (cells_below hb_w10)
  clear hb_w10
  have kY:Bk w10 w9.heap.size 51 [.slice B1 m1 d1,.slice B2 m2 d2]:=by rw [hw10];exact Bk.new w9 _ _
  go_upto_region 11 with fail
  rw [<- hw10]
  clear hw10
  obtain⟨s2,f,HF⟩:∃ s f,Hid (sortStream y v=(s,f)):=⟨_,_,rfl⟩
  have ckY_0:=kY.bx 0 _ rfl
  have ckY_1:=kY.bx 1 _ rfl
  go_wp2_with fail
  have C:=iSortStream_c _ y v _ rY
  rw [HF.out]at C
  refine C.mono ?_
  clear C
  rintro e w11 ⟨cs,fp,rfl,oX,frX,hb11⟩
  obtain⟨B3,m3,d3,B4,m4,d4,f5,f6,rfl,rfl,_,_⟩:=rStream_own.1 oX
  have rU:=(rStream_ok NB).toRep oX
  clear oX frX
  replace hB:=hB.trans (hb11.mono hB.size)
  replace rY:=(rStream_ok NB).keep rY (cells_below hb11)
  replace kY:=kY.below hb11
  clear hb11 ckY_0 ckY_1
  obtain⟨w12,hw12⟩:∃ W,W=w11.alloc (.cells #[.slice B3 m3 d3,.slice B4 m4 d4] 51):=⟨_,rfl⟩
  have hb_w12:Below w11.heap.size w11 w12:=by rw [hw12];exact(Below.refl w11.heap.size w11).alloc (Nat.le_refl _) _
  replace hB:=hB.trans (hb_w12.mono hB.size)
  replace rY:=(rStream_ok NB).keep rY (cells_below hb_w12)
  replace kY:=kY.below hb_w12
  replace rU:=(rStream_ok NB).keep rU (cells_below hb_w12)
  clear hb_w12
  have kU:Bk w12 w11.heap.size 51 [.slice B3 m3 d3,.slice B4 m4 d4]:=by rw [hw12];exact Bk.new w11 _ _
  go_upto_region 12 with fail
  rw [<- hw12]
  clear hw12
  have ckY_0:=kY.bx 0 _ rfl
  have ckY_1:=kY.bx 1 _ rfl
  go_wp2_with fail
  have C:=sSortStream_c _ y v _ rY
  rw [HF.out]at C
  refine C.mono ?_
  clear C
  rintro e w13 ⟨cs,fp,rfl,oX,frX,hb13⟩
  obtain⟨B5,m5,d5,B6,m6,d6,f5,f6,rfl,rfl,_,_⟩:=rStream_own.1 oX
  have rV:=(rStream_ok NB).toRep oX
  clear oX frX
  replace hB:=hB.trans (hb13.mono hB.size)
  replace rY:=(rStream_ok NB).keep rY (cells_below hb13)
  replace kY:=kY.below hb13
  replace rU:=(rStream_ok NB).keep rU (cells_below hb13)
  replace kU:=kU.below hb13
  clear hb13 ckY_0 ckY_1
  obtain⟨w14,hw14⟩:∃ W,W=w13.alloc (.cells #[.slice B5 m5 d5,.slice B6 m6 d6] 51):=⟨_,rfl⟩
  have hb_w14:Below w13.heap.size w13 w14:=by rw [hw14];exact(Below.refl w13.heap.size w13).alloc (Nat.le_refl _) _
  replace hB:=hB.trans (hb_w14.mono hB.size)
  replace rY:=(rStream_ok NB).keep rY (cells_below hb_w14)
  replace kY:=kY.below hb_w14
  replace rU:=(rStream_ok NB).keep rU (cells_below hb_w14)
  replace kU:=kU.below hb_w14
  replace rV:=(rStream_ok NB).keep rV (cells_below hb_w14)
  clear hb_w14
  have kV:Bk w14 w13.heap.size 51 [.slice B5 m5 d5,.slice B6 m6 d6]:=by rw [hw14];exact Bk.new w13 _ _
  go_upto_region 13 with fail
  rw [<- hw14]
  clear hw14
  have hqq:(f != f)=false:=by simp
  have ckU_0:=kU.bx 0 _ rfl
  have ckU_1:=kU.bx 1 _ rfl
  have ckV_0:=kV.bx 0 _ rfl
  have ckV_1:=kV.bx 1 _ rfl
  go_wp2_with fail
  refine(sEqualStreams_c _ _ s2 s2 _ rU rV).mono ?_
  rintro e w15 ⟨rfl,hb15⟩
  replace hB:=hB.trans (hb15.mono hB.size)
  replace rY:=(rStream_ok NB).keep rY (cells_below hb15)
  replace kY:=kY.below hb15
  replace rU:=(rStream_ok NB).keep rU (cells_below hb15)
  replace kU:=kU.below hb15
  replace rV:=(rStream_ok NB).keep rV (cells_below hb15)
  replace kV:=kV.below hb15
  clear hb15 ckU_0 ckU_1 ckV_0 ckV_1
  clear rV kV hqq
  have hdd:decide (s2=s2)=true:=by simp
  cases f
  ·go_wp2
   go_ret
   exact⟨rfl,hB⟩
  ·have hss:=sort_srt (s:=y) (v:=v) (by rw [HF.out])
   rw [HF.out]at hss
   have ckU_0:=kU.bx 0 _ rfl
   have ckU_1:=kU.bx 1 _ rfl
   have ckY_0:=kY.bx 0 _ rfl
   have ckY_1:=kY.bx 1 _ rfl
   go_upto_region 15 with fail
   go_wp2_with fail
   have C:=iIsSortedStream_c _ s2 v _ rU
   rw [hss.1]at C
   refine C.mono ?_
   clear C
   rintro e w16 ⟨rfl,hb16⟩
   have hlen:m4=m2:=by
    obtain⟨_,_,_,_,_,_,ee,_,r2⟩:=rStream_rep.1 rU;injection ee with _ ee;injection ee with ee _;injection ee with _ e2 _
    obtain⟨_,_,_,_,_,_,ff,_,r3⟩:=rStream_rep.1 rY;injection ff with _ ff;injection ff with ff _;injection ff with _ f2 _
    rw [e2,f2,<- r2.len,<- r3.len];exact hss.2
   replace hB:=hB.trans (hb16.mono hB.size)
   replace rY:=(rStream_ok NB).keep rY (cells_below hb16)
   replace kY:=kY.below hb16
   replace rU:=(rStream_ok NB).keep rU (cells_below hb16)
   replace kU:=kU.below hb16
   clear hb16 ckU_0 ckU_1 ckY_0 ckY_1
   subst hlen
   have ckU_1:=kU.bx 1 _ rfl
   have ckY_1:=kY.bx 1 _ rfl
   have hd2:decide ((m4:Int)=m4)=true:=by simp
   go_wp2
   go_ret
   exact⟨rfl,hB⟩

set_option maxRecDepth 100000 in
theorem lifted (os:Os) (started:os.Started) (H:Type) (enc:TypeId × Value->H) :
  ReturnsInHanded {} Tryz.checked os 4 .any (Rows.fnStreamsSpec.pre6 enc Tryz.prog Tryz.f4 Rows.fnStreamsRow.domain false) (Rows.fnStreamsSpec.post enc Tryz.prog Tryz.f4 false true false false):=by
 refine returnsInHanded_of_change (C:=Tryz.checked) own started (by kernel_rfl) Tryz.func4
  (ChangeSpec.witness6 (enc:=enc) (C:=Tryz.checked) false ⟨#[],#[.slice none 0 0],[]⟩ 8 (by kernel_rfl) (by kernel_rfl) (by kernel_rfl) (by kernel_rfl)) ?_
 intro W base args ds gs before hval0 hW hcnd _
 have hval:∀ (j:Nat) t v,Tryz.f4.params[j]?=some t->args[j]?=some v->Value.okWide Tryz.prog W .any base t v:=hval0
 have hW':=hW
 obtain⟨p,q,hA0,hV,rfl,hfz,hnd⟩:=hW
 have hA:DataW.TrodAll enc Tryz.prog W 0 (fun _=>true) true Tryz.f4.params.toList args.toList ds p:=hA0
 rw [Tryz.params4]at hA hval
 obtain⟨v0,vs0,d0,ds0,p0,q0,hargs,rfl,rfl,h0,r0⟩:=trodAll_cons hA
 obtain⟨rfl,rfl,rfl⟩:=trodAll_nil r0
 obtain rfl:args=#[v0]:=by cases args;simp_all
 obtain⟨rfl,rfl⟩:=trodVars_none hV
 obtain⟨A0,n0,c0,rfl⟩:=okWide_slice Tryz.underlying22 (hval 0 22 v0 rfl rfl)
 have k0:=h0
 have lt0:∀ x∈p0,x.block<W.heap.size:=by obtain⟨m,hm⟩:=k0;exact DataW.trod_lt m _ _ _ hm
 obtain⟨l0,g0⟩:∃ l,RS maxLen rByte W A0 n0 c0 l:=by
  obtain⟨fuel,hf⟩:=h0
  obtain⟨l,A,n,c,e,hr⟩:=(opens_slice rByte_ok Tryz.underlying22 (by kernel_rfl) (opens_byte Tryz.underlying5)) hf
  simp [Value.cells]at e
  obtain⟨rfl,rfl,rfl⟩:=e
  exact⟨l,hr⟩
 clear hA0 hval0
 refine(walk A0 n0 c0 l0 W g0).mono fun e W' ⟨he,bel⟩=>?_
 subst he
 exact⟨_,rfl,_,_,_,[],_,[],hW',trodAll_mk1 (shut_bool Tryz.underlying4 _),(trodAll_cons_mk (Below.trod laidOut (by kernel_rfl) (of_decide_eq_true (by kernel_rfl)) k0 bel lt0) trodAll_mk0),rfl,bel.frame _,fun h=>by cases h⟩

theorem over:Rows.fnStreamsRow.holds Tryz.pinned (OpenSpec.ofChange Rows.fnStreamsSpec) :=
 OpenClaim.holds_of_wide 4 Tryz.f4 rfl rfl rfl rfl rfl rfl rfl ⟨rfl,rfl,rfl,rfl,rfl⟩ rfl rfl rfl rfl rfl (by kernel_rfl) Tryz.func4 (by kernel_rfl)
  (of_decide_eq_true (by kernel_rfl)) (by unfold Func.isWrapper;first|(rw [if_pos (by decide +kernel)];kernel_rfl)|(rw [if_neg (by decide +kernel)];exact⟨rfl,rfl⟩))
  (fun os started H enc _=>lifted os started H enc)

theorem proved : Rows.FnStreamsSaid := over
#print axioms proved
end Go.Proofs.YtiafklphblkpbaaGreat.fnStreams
