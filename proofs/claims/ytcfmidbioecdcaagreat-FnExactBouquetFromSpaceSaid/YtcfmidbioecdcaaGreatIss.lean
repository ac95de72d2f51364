/-
  Iss
-/
import Derived.Test.YtcfmidbioecdcaaGreatKeep
import Derived.Test.YtcfmidbioecdcaaGreatPii
import Derived.Test.YtcfmidbioecdcaaGreatPcp
import Derived.Test.YtcfmidbioecdcaaGreatPss
import Derived.Test.YtcfmidbioecdcaaGreatOper
import Derived.Test.YtcfmidbioecdcaaGreatMop
namespace Go.Proofs.YtcfmidbioecdcaaGreat
open Go.RowKit
set_option linter.unusedVariables false
set_option linter.unusedSimpArgs false
/-- a row; nil where it is empty -/
def RetN (l:List Int) (w:World) (e:Ending) (w':World):Prop:=∃ A n c,e=.returned (.slice A n c)/\MS w.heap.size NB 3 rInt w' A n c l/\Below w.heap.size w w'/\(l=[]->A=none/\n=0/\c=0)
theorem Bk.grownB {w w':World}{g:Nat}{t:TypeId}{cs:List Value}{A:Option Addr}(h:Bk w g t cs) (hg:w.grownBy w' (A.map (·.block))) (hn:g∉blk A):Bk w' g t cs :=
 (hg.block g h.lt (fun e=>hn (mem_blk.2 e.symm))).trans h
set_option maxRecDepth 100000 in
set_option maxHeartbeats 1600000 in
theorem iStepCosts_c (csm:List Value) (m:ModelD) (csq:List Value) (q:QueryD) (csp:List Value) (p:PlanD) (Az:Option Addr) (nz cz:Nat) (z:List Int) (w:World) (hm:(rModel NB).rep w csm m) (hq:(rQuery NB).rep w csq q) (hp:(rPlan NB).rep w csp p) (hz:RS NB rInt w Az nz cz z) :
  Calls Tryz.prog 193 #[.agg csm.toArray,.agg csq.toArray,.agg csp.toArray,.slice Az nz cz] w (RetN (stepCosts m q p z) w):=by
 have rm:=hm
 have lenm:=(rModel_ok NB).len hm
 clear hm
 have rq:=hq
 obtain⟨AqAtoms,nqAtoms,cqAtoms,rfl,hqVariableCount,hqAtoms⟩:=rQuery_rep.1 hq
 clear hq
 have rp:=hp
 obtain⟨ApSteps,npSteps,cpSteps,rfl,hpSteps⟩:=rPlan_rep.1 hp
 clear hp
 have hB:Below w.heap.size w w:=Below.refl _ _
 have hAm:=(Below.refl (World.heap (w)).size (w)).alloc (Nat.le_refl _) (.cells csm.toArray 50)
 replace hB:=hB.trans (hAm.mono hB.size)
 have bxm:=Bx.new (w) csm 50
 clear hAm
 have hAq:=(Below.refl (World.heap ((w).alloc (.cells csm.toArray 50))).size ((w).alloc (.cells csm.toArray 50))).alloc (Nat.le_refl _) (.cells #[.int .i64 q.fVariableCount,.slice AqAtoms nqAtoms cqAtoms] 54)
 replace hB:=hB.trans (hAq.mono hB.size)
 replace bxm:=bxm.below hAq
 have bxq:=Bx.new ((w).alloc (.cells csm.toArray 50)) [.int .i64 q.fVariableCount,.slice AqAtoms nqAtoms cqAtoms] 54
 simp only [World.size_alloc]at bxq
 clear hAq
 have hAp:=(Below.refl (World.heap (((w).alloc (.cells csm.toArray 50)).alloc (.cells #[.int .i64 q.fVariableCount,.slice AqAtoms nqAtoms cqAtoms] 54))).size (((w).alloc (.cells csm.toArray 50)).alloc (.cells #[.int .i64 q.fVariableCount,.slice AqAtoms nqAtoms cqAtoms] 54))).alloc (Nat.le_refl _) (.cells #[.slice ApSteps npSteps cpSteps] 114)
 replace hB:=hB.trans (hAp.mono hB.size)
 replace bxm:=bxm.below hAp
 replace bxq:=bxq.below hAp
 have bxp:=Bx.new (((w).alloc (.cells csm.toArray 50)).alloc (.cells #[.int .i64 q.fVariableCount,.slice AqAtoms nqAtoms cqAtoms] 54)) [.slice ApSteps npSteps cpSteps] 114
 simp only [World.size_alloc]at bxp
 clear hAp
 have hnp:=hpSteps.bound
 have hnz:=hz.bound
 have HLp:=Lib.hid hpSteps.len
 have lenm':csm.length=30:=lenm
 clear lenm
 go_enter Tryz.func193,Tryz.ntmps193
 have kq_0:=bxq 0 _ rfl
 have kq_1:=bxq 1 _ rfl
 have kp_0:=bxp 0 _ rfl
 go_wp2_with fail
 refine(iPlanInfo_c _ q _ p _ ((rQuery_ok NB).keep rq (cells_below hB)) ((rPlan_ok NB).keep rp (cells_below hB))).mono ?_
 rintro e w1 ⟨AI,nI,cI,rfl,hMI,hb1⟩
 replace hB:=hB.trans (hb1.mono hB.size)
 replace bxm:=bxm.below hb1
 replace bxq:=bxq.below hb1
 replace bxp:=bxp.below hb1
 clear hb1 kq_0 kq_1 kp_0
 cases hpi:planInfo q p with
 | none =>
  have HN:=Lib.hid hpi;clear hpi
  dsimp only [Option.getD,Option.isSome]at hMI ⊢
  go_wp2
  go_ret
  rw [stepCosts_none HN.out]
  exact⟨none,0,0,rfl,MS.nil _ (Nat.zero_le _),hB,fun _=>⟨rfl,rfl,rfl⟩⟩
 | some l =>
  rw [hpi]at hMI
  dsimp only [Option.getD,Option.isSome]at hMI ⊢
  have HPI:=Lib.hid hpi;clear hpi
  have kq_0:=bxq 0 _ rfl
  have kq_1:=bxq 1 _ rfl
  go_wp2_with fail
  refine(iIsSizeVector_c _ q _ _ _ z _ ((rQuery_ok NB).keep rq (cells_below hB)) (hz.below rInt_ok hB)).mono ?_
  rintro e w2 ⟨rfl,hb2⟩
  replace hB:=hB.trans (hb2.mono hB.size)
  replace bxm:=bxm.below hb2
  replace bxq:=bxq.below hb2
  replace bxp:=bxp.below hb2
  replace hMI:=hMI.below (rStepInfo_ok NB) hb2
  clear hb2 kq_0 kq_1
  cases e1:isSizes q z
  ·have HN:=Lib.hid e1;clear e1
   go_wp2
   go_ret
   rw [stepCosts_bad HN.out]
   exact⟨none,0,0,rfl,MS.nil _ (Nat.zero_le _),hB,fun _=>⟨rfl,rfl,rfl⟩⟩
  have HZ:=Lib.hid e1;clear e1
  have HLI:=Lib.hid hMI.len
  obtain⟨hI14,hIp,hp1⟩:nI<=14/\nI=npSteps/\1<=npSteps:=by
   obtain⟨_,h2,h3,_,_,h6,_⟩:=planInfo_parts HPI.out
   have:=HLI.out;have:=HLp.out;omega
  have HIP:=Lib.hid hIp;clear hIp
  have HSL:Hid ((stepCosts m q p z).length=npSteps):=by show _=_;rw [stepCosts_len HPI.out HZ.out];have:=HLI.out;have:=HIP.out;omega
  have hO0:=MS.empty (B:=w2.heap.size) (M:=NB) (e:=3) (r:=rInt) w2 (Nat.le_refl _)
  have hE0:=(Below.refl w2.heap.size w2).alloc (Nat.le_refl _) (.cells #[] 3)
  have kp_0:=(bxp.below hE0) 0 _ rfl
  go_wp2
  clear kp_0
  go_loopw [11,34] (fun so i wr=>∃ (k:Nat) (AO:Option Addr) (cO:Nat),k<=npSteps/\i=.int .i64 k/\so=.slice AO k cO/\MS w2.heap.size NB 3 rInt wr AO k cO ((stepCosts m q p z).take k)/\Below w2.heap.size w2 wr) (fun _ i _=>npSteps - (intOf i).toNat)
  case atStart=>exact⟨0,_,0,Nat.zero_le _,rfl,rfl,hO0,hE0⟩
  case round =>
   clear hO0 hE0
   obtain⟨k,AO,cO,hk,rfl,rfl,hO,hE⟩:=hrel
   have hB2:=hB.trans (hE.mono hB.size)
   by_cases hlt:k<npSteps
   ·obtain⟨b,off,⟨xk,xa,xo⟩,rfl,hc0,hc1,hc2,i0,i1,i2,hx⟩:=hpSteps.ePlanStep hlt
    dsimp only at hc0 hc1 hc2 i0 i1 i2
    have hxk:1<=xk/\xk<=5:=by
     obtain⟨_,_,_,_,_,_,h7⟩:=planInfo_parts HPI.out
     exact h7 _ (mem_of_at hx.out)
    obtain⟨kk,rfl⟩:∃ kk:Nat,xk=(kk:Int)+1:=⟨(xk - 1).toNat,by omega⟩
    have hkk:kk<5:=by omega
    clear hxk
    have HX:=Lib.hid hx.out;clear hx
    obtain⟨o,A,n,c,Ho,hOA⟩:=modelAt rm hB bxm hkk
    have HOP:Hid (opOf m ((kk:Int)+1)=o):=by show _=_;have:=Ho.out;rw [opOf_at m hkk]at this;injection this
    clear Ho
    have hOA0:=hOA
    replace hOA:=hOA.below hE
    obtain⟨bI,oI,⟨ym,yo,yl,yr⟩,rfl,hy0,hy1,hy2,hy3,hi0',hi1',hi2',hi3',hy⟩:=(hMI.rs (rStepInfo_ok NB)).eStepInfo (k:=k) (by have:=HIP.out;omega)
    dsimp only at hy0 hy1 hy2 hy3 hi0' hi1' hi2' hi3'
    have hyA:=hy0
    obtain⟨st,hR⟩:∃ st,Run q.fAtoms.length l st:=by
     obtain⟨_,_,_,st,h,_,_⟩:=planInfo_parts HPI.out
     exact⟨st,h⟩
    have hmk:=hR.mask _ (mem_of_at hy.out)
    have hkd:=hR.kids k _ hy.out
    have hyr:=planInfo_lr HPI.out _ (mem_of_at hy.out)
    dsimp only at hmk hkd hyr
    obtain⟨a,rfl⟩:∃ a:Nat,ym=a:=⟨ym.toNat,by omega⟩
    obtain⟨za1,za2,za3,za4⟩:=sizeAt_at HZ.out (m:=(a:Int)) (by omega) hmk.2
    rw [Int.toNat_natCast]at za1 za2
    have hanz:a<nz:=by have:=hz.len;omega
    obtain⟨bZ,oZ,s,rfl,hcs,hIs,hxs⟩:=hz.ati hanz
    have hcA:=hcs
    have HS:Hid (sizeAt z (a:Int)=s):=by show _=_;have:=hxs.out;rw [za2]at this;injection this
    rw [HS.out]at za3 za4
    clear za1 za2 hxs
    obtain⟨v,hv⟩:∃ v,v=costOf m z l ((kk:Int)+1) ⟨a,yo,yl,yr⟩:=⟨_,rfl⟩
    have HC:Hid ((stepCosts m q p z)[k]?=some v):=by show _=_;rw [hv];have h:=stepCosts_at (m:=m) HPI.out HZ.out HX.out hy.out;dsimp only at h;exact h
    have HV:=Lib.hid hv;clear hv
    have hvI:I64 v:=by have:=(stepCosts_bd m q p z).2 v (mem_of_at HC.out);exact⟨by omega,by omega⟩
    have HBO:Hid (∀ x∈blk AO,x<wr.heap.size):=by show ∀ x∈blk AO,_;exact fun x hx=>(hO.blkB rInt_ok x hx).2
    have mj:IntKind.i64.wrap (kk:Int)=(kk:Int):=IntWalk.i64_in _ (by omega)
    have hkk5:(kk:Int)<5:=by omega
    have hkI:(k:Int)<(nI:Int):=by have:=HIP.out;omega
    replace hc0:=cells_below hB2 _ _ hc0
    replace hc1:=cells_below hB2 _ _ hc1
    replace hc2:=cells_below hB2 _ _ hc2
    go_upto_region 8 with fail
    have bkx:=Bk.new wr [.int .i64 ((kk:Int)+1),.int .i64 xa,.int .i64 xo] 176
    have hAx:=(Below.refl wr.heap.size wr).alloc (Nat.le_refl _) (.cells #[.int .i64 ((kk:Int)+1),.int .i64 xa,.int .i64 xo] 176)
    obtain⟨wx,hwx⟩:∃ W,W=wr.alloc (.cells #[.int .i64 ((kk:Int)+1),.int .i64 xa,.int .i64 xo] 176):=⟨_,rfl⟩
    rw [<- hwx]at hAx ⊢
    replace bkx:Bk wx wr.heap.size 176 [.int .i64 ((kk:Int)+1),.int .i64 xa,.int .i64 xo]:=by rw [hwx];exact bkx
    clear hwx hc0 hc1 hc2
    have hE3:=hE.trans (hAx.mono hE.size)
    have hB3:=hB2.trans (hAx.mono hB2.size)
    replace hOA:=hOA.below hAx
    obtain⟨gx,hgx⟩:∃ g,g=wr.heap.size:=⟨_,rfl⟩
    rw [<- hgx]at bkx ⊢
    have HGX:=Lib.hid hgx;clear hgx
    replace hy0:=cells_below hE3 _ _ hy0
    replace hy2:=cells_below hE3 _ _ hy2
    replace hy3:=cells_below hE3 _ _ hy3
    replace hcs:=cells_below hB3 _ _ hcs
    clear hy1
    have HSS:Hid (∀ w',(Below w2.heap.size w2 w'/\Bk w' gx 176 [.int .i64 ((kk:Int)+1),.int .i64 xa,.int .i64 xo])->(w'.cell? ⟨gx,0,none⟩=some (.int .i64 ((kk:Int)+1))/\w'.cell? ⟨w.heap.size,kk*6,none⟩=some (.int .i64 o.fFixed)/\w'.cell? ⟨w.heap.size,kk*6+1,none⟩=some (.int .i64 o.fPerLeft)/\w'.cell? ⟨w.heap.size,kk*6+2,none⟩=some (.int .i64 o.fPerRight)/\w'.cell? ⟨w.heap.size,kk*6+3,none⟩=some (.int .i64 o.fPerOutput)/\w'.cell? ⟨w.heap.size,kk*6+4,none⟩=some (.int .i64 o.fPerPair)/\w'.cell? ⟨w.heap.size,kk*6+5,none⟩=some (.slice A n c)/\w'.cell? ⟨bI,oI+k*4,none⟩=some (.int .i64 a)/\w'.cell? ⟨bZ,oZ+a,none⟩=some (.int .i64 s))):=by
     show ∀ w',_->_
     intro w' hq
     have h6:=(hOA0.below hq.1)
     exact⟨hq.2.bx 0 _ rfl,h6.c0,h6.c1,h6.c2,h6.c3,h6.c4,h6.c5,cells_below hq.1 _ _ hyA,cells_below (hB.trans (hq.1.mono hB.size)) _ _ hcA⟩
    by_cases hl0:yl<0
    ·have hr0:=hyr hl0
     clear hyr hkd
     have HCO:Hid (v=opCostV o s 0 s):=by show _=_;rw [HV.out,<- HOP.out];exact costScan hl0 hr0 HS.out
     have K1:Hid (∀ W,Below wx.heap.size wx W->Calls Tryz.prog 196 #[.agg #[.int .i64 o.fFixed,.int .i64 o.fPerLeft,.int .i64 o.fPerRight,.int .i64 o.fPerOutput,.int .i64 o.fPerPair,.slice A n c],.int .i64 s,.int .i64 0,.int .i64 s] W fun e w'=>e=.returned (.int .i64 v)/\Below W.heap.size W w'):=by
      show ∀ W,_->_
      intro W hW
      have:=iOperatorCost_c _ o s 0 s W (hOA.below hW).rep
      rw [<- HCO.out]at this
      exact this
     go_wp2
     refine hbg HSS.out ⟨hE3.drew,bkx.below (Below.refl _ _).drew⟩ (fun hHeld=>?_)
     refine tka 0 83 hHeld ?_;simp only [putS]
     refine tka 2 85 hHeld ?_;simp only [putS]
     refine tka 3 86 hHeld ?_;simp only [putS]
     refine tka 4 87 hHeld ?_;simp only [putS]
     refine tka 9 92 hHeld ?_;simp only [putS]
     refine tka 10 93 hHeld ?_;simp only [putS]
     refine tka 11 94 hHeld ?_;simp only [putS]
     refine tka 12 95 hHeld ?_;simp only [putS]
     refine tka 13 96 hHeld ?_;simp only [putS]
     refine tka 14 97 hHeld ?_;simp only [putS]
     refine tka 15 98 hHeld ?_;simp only [putS]
     refine tka 16 99 hHeld ?_;simp only [putS]
     refine tka 17 100 hHeld ?_;simp only [putS]
     refine tka 18 101 hHeld ?_;simp only [putS]
     refine rd 1 (some 84) fun K hK=>?_
     clear hHeld
     go_simp
     refine(iOperators_c _ 0 _).mono ?_
     rintro e w4 ⟨rfl,bxp4,hb4⟩
     have hC4:Below wx.heap.size wx w4:=((Below.refl wx.heap.size wx).drew.trans (hb4.mono (by simp)))
     have kp4:w4.cell? ⟨wx.heap.size,kk,none⟩=some (.pointer (some ⟨w.heap.size,kk*6,none⟩)):=ptr_at6 bxp4 hkk
     go_wp2_with fail
     refine hK.out _ _ (HSS.out _ ⟨hE3.trans (hC4.mono hE3.size),bkx.below hC4⟩) (fun hHeld=>?_)
     clear hK K
     try simp only [putS]
     refine tka 5 88 hHeld ?_;simp only [putS]
     refine rd 6 (some 89) fun K hK=>?_
     clear hHeld
     go_simp
     refine hK.out _ _ (HSS.out _ ⟨hE3.trans (hC4.mono hE3.size),bkx.below hC4⟩) (fun hHeld=>?_)
     clear hK K
     try simp only [putS]
     refine tka 7 90 hHeld ?_;simp only [putS]
     refine tka 8 91 hHeld ?_;simp only [putS]
     refine rd 19 (some 102) fun K hK=>?_
     clear hHeld
     go_simp
     refine(K1.out _ hC4).mono ?_
     rintro e w5 ⟨rfl,hb5⟩
     have hC5:=hC4.trans (hb5.mono hC4.size)
     have hC6:=hC5.alloc hC5.size (.cells #[.int .i64 v] 3)
     have hE6:=hE3.trans (hC6.mono hE3.size)
     have hX6:=hAx.trans (hC6.mono hAx.size)
     go_wp2_with fail
     refine hK.out _ _ (HSS.out _ ⟨hE3.trans (hC5.mono hE3.size),bkx.below hC5⟩) (fun hHeld=>?_)
     clear hK K
     try simp only [putS]
     refine rd 20 (some 103) fun K hK=>?_
     clear hHeld
     go_simp
     refine hK.out _ _ (HSS.out _ ⟨hE6,bkx.below hC6⟩) (fun hHeld=>?_)
     clear hK K
     try simp only [putS]
     refine rd 21 (some 104) fun K hK=>?_
     clear hHeld
     refine step_appB (by rfl) _ _ 30 (by rfl) _ 8 eiInt rInt_ok (by rfl) hO hX6 hE.size ⟨w5.heap.size,0,none⟩ (by rfl) (f:=[]) (cs:=[.int .i64 v]) (y:=v) ⟨rfl,rfl,hvI⟩ (Fr.nil _) (cells_new _ _ _) (by unfold NB;omega) (Nat.le_refl _) (by omega) ?_
     intro AO2 cO2 w9 hO9 hb9 hg9 hA9
     have hE9:=hE6.trans hb9
     have hk9:=(bkx.below hC6).grownB hg9 (fun h=>by have:=HBO.out _ h;have:=HGX.out;omega)
     refine hK.out _ _ (HSS.out _ ⟨hE9,hk9⟩) (fun hHeld=>?_)
     clear hK K
     try simp only [putS]
     refine tka 22 11 hHeld ?_;simp only [putS]
     refine wpAnyH_done (by kernel_rfl) ?_ _
     clear hHeld
     clear HSS K1
     go_wp2
     go_roundw
     case rel=>exact⟨k+1,AO2,cO2,by omega,by go_num,rfl,by rw [take_snoc HC.out];exact hO9,hE9⟩
     case measure=>simp [intOf];omega
    clear hyr
    obtain⟨x1,rfl⟩:∃ x:Nat,yl=x:=⟨yl.toNat,by omega⟩
    have hxx:x1<nI:=by have:=HLI.out;have:=HIP.out;omega
    obtain⟨b',o',⟨a1m,a1o,a1l,a1r⟩,e',hdx,_,_,_,_,_,_,_,hxy⟩:=(hMI.rs (rStepInfo_ok NB)).eStepInfo (k:=x1) hxx
    injection e' with e';injection e' with e1 e2;subst e1;subst e2
    dsimp only at hdx
    have hmx:=hR.mask _ (mem_of_at hxy.out)
    dsimp only at hmx
    obtain⟨a1,rfl⟩:∃ a:Nat,a1m=a:=⟨a1m.toNat,by omega⟩
    obtain⟨zx1,zx2,zx3,zx4⟩:=sizeAt_at HZ.out (m:=(a1:Int)) (by omega) hmx.2
    rw [Int.toNat_natCast]at zx1 zx2
    have hax:a1<nz:=by have:=hz.len;omega
    obtain⟨b',o',s1,e',hex,hIx,hkx⟩:=hz.ati hax
    injection e' with e';injection e' with e1 e2;subst e1;subst e2
    have HSx:Hid (sizeAt z (a1:Int)=s1):=by show _=_;have:=hkx.out;rw [zx2]at this;injection this
    rw [HSx.out]at zx3 zx4
    clear zx1 zx2 hkx
    replace hdx:=cells_below hE3 _ _ hdx
    replace hex:=cells_below hB3 _ _ hex
    clear hl0
    have hxxI:(x1:Int)<(nI:Int):=by omega
    by_cases hr0:yr<0
    ·clear hkd
     have HCO:Hid (v=opCostV o s1 0 s):=by show _=_;rw [HV.out,<- HOP.out];exact costSort rfl hr0 hxy.out HS.out HSx.out
     have K1:Hid (∀ W,Below wx.heap.size wx W->Calls Tryz.prog 196 #[.agg #[.int .i64 o.fFixed,.int .i64 o.fPerLeft,.int .i64 o.fPerRight,.int .i64 o.fPerOutput,.int .i64 o.fPerPair,.slice A n c],.int .i64 s1,.int .i64 0,.int .i64 s] W fun e w'=>e=.returned (.int .i64 v)/\Below W.heap.size W w'):=by
      show ∀ W,_->_
      intro W hW
      have:=iOperatorCost_c _ o s1 0 s W (hOA.below hW).rep
      rw [<- HCO.out]at this
      exact this
     go_wp2
     refine hbg HSS.out ⟨hE3.drew,bkx.below (Below.refl _ _).drew⟩ (fun hHeld=>?_)
     refine tka 0 83 hHeld ?_;simp only [putS]
     refine tka 2 85 hHeld ?_;simp only [putS]
     refine tka 3 86 hHeld ?_;simp only [putS]
     refine tka 4 87 hHeld ?_;simp only [putS]
     refine tka 9 92 hHeld ?_;simp only [putS]
     refine tka 10 93 hHeld ?_;simp only [putS]
     refine tka 11 94 hHeld ?_;simp only [putS]
     refine tka 12 95 hHeld ?_;simp only [putS]
     refine tka 13 96 hHeld ?_;simp only [putS]
     refine tka 14 97 hHeld ?_;simp only [putS]
     refine tka 15 98 hHeld ?_;simp only [putS]
     refine tka 16 99 hHeld ?_;simp only [putS]
     refine tka 17 100 hHeld ?_;simp only [putS]
     refine tka 18 101 hHeld ?_;simp only [putS]
     refine rd 1 (some 84) fun K hK=>?_
     clear hHeld
     go_simp
     refine(iOperators_c _ 0 _).mono ?_
     rintro e w4 ⟨rfl,bxp4,hb4⟩
     have hC4:Below wx.heap.size wx w4:=((Below.refl wx.heap.size wx).drew.trans (hb4.mono (by simp)))
     have kp4:w4.cell? ⟨wx.heap.size,kk,none⟩=some (.pointer (some ⟨w.heap.size,kk*6,none⟩)):=ptr_at6 bxp4 hkk
     go_wp2_with fail
     refine hK.out _ _ (HSS.out _ ⟨hE3.trans (hC4.mono hE3.size),bkx.below hC4⟩) (fun hHeld=>?_)
     clear hK K
     try simp only [putS]
     refine tka 5 88 hHeld ?_;simp only [putS]
     refine rd 6 (some 89) fun K hK=>?_
     clear hHeld
     go_simp
     refine hK.out _ _ (HSS.out _ ⟨hE3.trans (hC4.mono hE3.size),bkx.below hC4⟩) (fun hHeld=>?_)
     clear hK K
     try simp only [putS]
     refine tka 7 90 hHeld ?_;simp only [putS]
     refine tka 8 91 hHeld ?_;simp only [putS]
     refine rd 19 (some 102) fun K hK=>?_
     clear hHeld
     go_simp
     refine(K1.out _ hC4).mono ?_
     rintro e w5 ⟨rfl,hb5⟩
     have hC5:=hC4.trans (hb5.mono hC4.size)
     have hC6:=hC5.alloc hC5.size (.cells #[.int .i64 v] 3)
     have hE6:=hE3.trans (hC6.mono hE3.size)
     have hX6:=hAx.trans (hC6.mono hAx.size)
     go_wp2_with fail
     refine hK.out _ _ (HSS.out _ ⟨hE3.trans (hC5.mono hE3.size),bkx.below hC5⟩) (fun hHeld=>?_)
     clear hK K
     try simp only [putS]
     refine rd 20 (some 103) fun K hK=>?_
     clear hHeld
     go_simp
     refine hK.out _ _ (HSS.out _ ⟨hE6,bkx.below hC6⟩) (fun hHeld=>?_)
     clear hK K
     try simp only [putS]
     refine rd 21 (some 104) fun K hK=>?_
     clear hHeld
     refine step_appB (by rfl) _ _ 30 (by rfl) _ 8 eiInt rInt_ok (by rfl) hO hX6 hE.size ⟨w5.heap.size,0,none⟩ (by rfl) (f:=[]) (cs:=[.int .i64 v]) (y:=v) ⟨rfl,rfl,hvI⟩ (Fr.nil _) (cells_new _ _ _) (by unfold NB;omega) (Nat.le_refl _) (by omega) ?_
     intro AO2 cO2 w9 hO9 hb9 hg9 hA9
     have hE9:=hE6.trans hb9
     have hk9:=(bkx.below hC6).grownB hg9 (fun h=>by have:=HBO.out _ h;have:=HGX.out;omega)
     refine hK.out _ _ (HSS.out _ ⟨hE9,hk9⟩) (fun hHeld=>?_)
     clear hK K
     try simp only [putS]
     refine tka 22 11 hHeld ?_;simp only [putS]
     refine wpAnyH_done (by kernel_rfl) ?_ _
     clear hHeld
     clear HSS K1
     go_wp2
     go_roundw
     case rel=>exact⟨k+1,AO2,cO2,by omega,by go_num,rfl,by rw [take_snoc HC.out];exact hO9,hE9⟩
     case measure=>simp [intOf];omega
    obtain⟨x2,rfl⟩:∃ x:Nat,yr=x:=⟨yr.toNat,by omega⟩
    have hxx2:x2<nI:=by have:=HLI.out;have:=HIP.out;omega
    obtain⟨b',o',⟨a2m,a2o,a2l,a2r⟩,e',hdx2,_,_,_,_,_,_,_,hx2y⟩:=(hMI.rs (rStepInfo_ok NB)).eStepInfo (k:=x2) hxx2
    injection e' with e';injection e' with e1 e2;subst e1;subst e2
    dsimp only at hdx2
    have hmx2:=hR.mask _ (mem_of_at hx2y.out)
    dsimp only at hmx2
    obtain⟨a2,rfl⟩:∃ a:Nat,a2m=a:=⟨a2m.toNat,by omega⟩
    obtain⟨zy1,zy2,zy3,zy4⟩:=sizeAt_at HZ.out (m:=(a2:Int)) (by omega) hmx2.2
    rw [Int.toNat_natCast]at zy1 zy2
    have hay:a2<nz:=by have:=hz.len;omega
    obtain⟨b',o',s2,e',hey,hIy,hky⟩:=hz.ati hay
    injection e' with e';injection e' with e1 e2;subst e1;subst e2
    have HSx2:Hid (sizeAt z (a2:Int)=s2):=by show _=_;have:=hky.out;rw [zy2]at this;injection this
    rw [HSx2.out]at zy3 zy4
    clear zy1 zy2 hky hr0
    replace hdx2:=cells_below hE3 _ _ hdx2
    replace hey:=cells_below hB3 _ _ hey
    have hxxI2:(x2:Int)<(nI:Int):=by omega
    have HCO:Hid (v=opCostV o s1 s2 s):=by show _=_;rw [HV.out,<- HOP.out];exact costJoin rfl rfl hxy.out hx2y.out HS.out HSx.out HSx2.out
    have K1:Hid (∀ W,Below wx.heap.size wx W->Calls Tryz.prog 196 #[.agg #[.int .i64 o.fFixed,.int .i64 o.fPerLeft,.int .i64 o.fPerRight,.int .i64 o.fPerOutput,.int .i64 o.fPerPair,.slice A n c],.int .i64 s1,.int .i64 s2,.int .i64 s] W fun e w'=>e=.returned (.int .i64 v)/\Below W.heap.size W w'):=by
     show ∀ W,_->_
     intro W hW
     have:=iOperatorCost_c _ o s1 s2 s W (hOA.below hW).rep
     rw [<- HCO.out]at this
     exact this
    go_wp2
    refine hbg HSS.out ⟨hE3.drew,bkx.below (Below.refl _ _).drew⟩ (fun hHeld=>?_)
    refine tka 0 83 hHeld ?_;simp only [putS]
    refine tka 2 85 hHeld ?_;simp only [putS]
    refine tka 3 86 hHeld ?_;simp only [putS]
    refine tka 4 87 hHeld ?_;simp only [putS]
    refine tka 9 92 hHeld ?_;simp only [putS]
    refine tka 10 93 hHeld ?_;simp only [putS]
    refine tka 11 94 hHeld ?_;simp only [putS]
    refine tka 12 95 hHeld ?_;simp only [putS]
    refine tka 13 96 hHeld ?_;simp only [putS]
    refine tka 14 97 hHeld ?_;simp only [putS]
    refine tka 15 98 hHeld ?_;simp only [putS]
    refine tka 16 99 hHeld ?_;simp only [putS]
    refine tka 17 100 hHeld ?_;simp only [putS]
    refine tka 18 101 hHeld ?_;simp only [putS]
    refine rd 1 (some 84) fun K hK=>?_
    clear hHeld
    go_simp
    refine(iOperators_c _ 0 _).mono ?_
    rintro e w4 ⟨rfl,bxp4,hb4⟩
    have hC4:Below wx.heap.size wx w4:=((Below.refl wx.heap.size wx).drew.trans (hb4.mono (by simp)))
    have kp4:w4.cell? ⟨wx.heap.size,kk,none⟩=some (.pointer (some ⟨w.heap.size,kk*6,none⟩)):=ptr_at6 bxp4 hkk
    go_wp2_with fail
    refine hK.out _ _ (HSS.out _ ⟨hE3.trans (hC4.mono hE3.size),bkx.below hC4⟩) (fun hHeld=>?_)
    clear hK K
    try simp only [putS]
    refine tka 5 88 hHeld ?_;simp only [putS]
    refine rd 6 (some 89) fun K hK=>?_
    clear hHeld
    go_simp
    refine hK.out _ _ (HSS.out _ ⟨hE3.trans (hC4.mono hE3.size),bkx.below hC4⟩) (fun hHeld=>?_)
    clear hK K
    try simp only [putS]
    refine tka 7 90 hHeld ?_;simp only [putS]
    refine tka 8 91 hHeld ?_;simp only [putS]
    refine rd 19 (some 102) fun K hK=>?_
    clear hHeld
    go_simp
    refine(K1.out _ hC4).mono ?_
    rintro e w5 ⟨rfl,hb5⟩
    have hC5:=hC4.trans (hb5.mono hC4.size)
    have hC6:=hC5.alloc hC5.size (.cells #[.int .i64 v] 3)
    have hE6:=hE3.trans (hC6.mono hE3.size)
    have hX6:=hAx.trans (hC6.mono hAx.size)
    go_wp2_with fail
    refine hK.out _ _ (HSS.out _ ⟨hE3.trans (hC5.mono hE3.size),bkx.below hC5⟩) (fun hHeld=>?_)
    clear hK K
    try simp only [putS]
    refine rd 20 (some 103) fun K hK=>?_
    clear hHeld
    go_simp
    refine hK.out _ _ (HSS.out _ ⟨hE6,bkx.below hC6⟩) (fun hHeld=>?_)
    clear hK K
    try simp only [putS]
    refine rd 21 (some 104) fun K hK=>?_
    clear hHeld
    refine step_appB (by rfl) _ _ 30 (by rfl) _ 8 eiInt rInt_ok (by rfl) hO hX6 hE.size ⟨w5.heap.size,0,none⟩ (by rfl) (f:=[]) (cs:=[.int .i64 v]) (y:=v) ⟨rfl,rfl,hvI⟩ (Fr.nil _) (cells_new _ _ _) (by unfold NB;omega) (Nat.le_refl _) (by omega) ?_
    intro AO2 cO2 w9 hO9 hb9 hg9 hA9
    have hE9:=hE6.trans hb9
    have hk9:=(bkx.below hC6).grownB hg9 (fun h=>by have:=HBO.out _ h;have:=HGX.out;omega)
    refine hK.out _ _ (HSS.out _ ⟨hE9,hk9⟩) (fun hHeld=>?_)
    clear hK K
    try simp only [putS]
    refine tka 22 11 hHeld ?_;simp only [putS]
    refine wpAnyH_done (by kernel_rfl) ?_ _
    clear hHeld
    clear HSS K1
    go_wp2
    go_roundw
    case rel=>exact⟨k+1,AO2,cO2,by omega,by go_num,rfl,by rw [take_snoc HC.out];exact hO9,hE9⟩
    case measure=>simp [intOf];omega
   ·have HE:Hid ((stepCosts m q p z).take k=stepCosts m q p z):=by show _=_;exact take_all HSL.out hlt
    go_wp2
    go_ret
    exact⟨_,_,_,rfl,by have h:=hO.base hB.size;rw [HE.out]at h;exact h,hB2,fun h=>absurd HSL.out (by rw [h];simp;omega)⟩
end Go.Proofs.YtcfmidbioecdcaaGreat
