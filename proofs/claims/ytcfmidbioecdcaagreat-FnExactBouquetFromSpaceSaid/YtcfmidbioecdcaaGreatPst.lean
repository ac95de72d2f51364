/-
  Pst
-/
import Derived.Test.YtcfmidbioecdcaaGreatKeep
import Derived.Test.YtcfmidbioecdcaaGreatPcp
import Derived.Test.YtcfmidbioecdcaaGreatQp
import Derived.Test.YtcfmidbioecdcaaGreatMop
namespace Go.Proofs.YtcfmidbioecdcaaGreat
open Go.RowKit
set_option linter.unusedVariables false
set_option linter.unusedSimpArgs false
/-- the cost of a step of kind k with the info y -/
def costOf (m:ModelD) (z:List Int) (l:List StepInfoD) (k:Int) (y:StepInfoD):Int:=opCostV (opOf m k) (leftSize z l y) (rightSize z l y) (sizeAt z y.fMask)
theorem costScan {m:ModelD}{z:List Int}{l:List StepInfoD}{k:Int}{y:StepInfoD}{s:Int}(h1:y.fLeft<0) (h2:y.fRight<0) (hs:sizeAt z y.fMask=s):costOf m z l k y=opCostV (opOf m k) s 0 s:=by
 unfold costOf leftSize rightSize;rw [if_neg (by omega),if_neg (by omega),hs]
theorem costSort {m:ModelD}{z:List Int}{l:List StepInfoD}{k:Int}{y a:StepInfoD}{s t:Int}{j:Nat}(h1:y.fLeft=j) (h2:y.fRight<0) (hj:l[j]?=some a) (hs:sizeAt z y.fMask=s) (ht:sizeAt z a.fMask=t):costOf m z l k y=opCostV (opOf m k) t 0 s:=by
 unfold costOf leftSize rightSize infoAt;rw [if_pos (by omega),if_neg (by omega),hs,h1,Int.toNat_natCast,hj]
 show opCostV _ (sizeAt z a.fMask) _ _=_
 rw [ht]
theorem costJoin {m:ModelD}{z:List Int}{l:List StepInfoD}{k:Int}{y a b:StepInfoD}{s t u:Int}{j i:Nat}(h1:y.fLeft=j) (h2:y.fRight=i) (hj:l[j]?=some a) (hi:l[i]?=some b) (hs:sizeAt z y.fMask=s) (ht:sizeAt z a.fMask=t) (hu:sizeAt z b.fMask=u):costOf m z l k y=opCostV (opOf m k) t u s:=by
 unfold costOf leftSize rightSize infoAt;rw [if_pos (by omega),if_pos (by omega),hs,h1,h2,Int.toNat_natCast,Int.toNat_natCast,hj,hi]
 show opCostV _ (sizeAt z a.fMask) (sizeAt z b.fMask) _=_
 rw [ht,hu]
set_option maxRecDepth 100000 in
set_option maxHeartbeats 1600000 in
theorem sL24Step_c (csm:List Value) (m:ModelD) (k:Int) (Al:Option Addr) (nl cl:Nat) (l:List StepInfoD) (i:Int) (Az:Option Addr) (nz cz:Nat) (z:List Int) (w:World) (hm:(rModel NB).rep w csm m) (hl:RS NB (rStepInfo NB) w Al nl cl l) (hz:RS NB rInt w Az nz cz z) (q:QueryD) (st:List Int) (hZ:isSizes q z=true) (hR:Run q.fAtoms.length l st) (hi0:0<=i) (hi1:i<(l.length:Int)) (hlr:∀ y∈l,y.fLeft<0->y.fRight<0) (hl14:l.length<=14) :
  Calls Tryz.prog 192 #[.agg csm.toArray,.int .i64 k,.slice Al nl cl,.int .i64 i,.slice Az nz cz] w fun e w'=>e=.returned (.int .i64 (costOf m z l k (infoAt l i)))/\Below w.heap.size w w':=by
 have rm:=hm
 have lenm:=(rModel_ok NB).len hm
 clear hm
 have hB:Below w.heap.size w w:=Below.refl _ _
 have hAm:=(Below.refl (World.heap (w)).size (w)).alloc (Nat.le_refl _) (.cells csm.toArray 50)
 replace hB:=hB.trans (hAm.mono hB.size)
 have bxm:=Bx.new (w) csm 50
 clear hAm
 obtain⟨j,rfl⟩:∃ j:Nat,i=j:=⟨i.toNat,by omega⟩
 have hnl:=hl.bound
 have hnz:=hz.bound
 have hjl:j<nl:=by have:=hl.len;omega
 obtain⟨bI,oI,⟨ym,yo,yl,yr⟩,rfl,hc0,hc1,hc2,hc3,hi0',hi1',hi2',hi3',hy⟩:=hl.eStepInfo (k:=j) hjl
 dsimp only at hc0 hc1 hc2 hc3 hi0' hi1' hi2' hi3'
 have HY:Hid (infoAt l (j:Int)=⟨ym,yo,yl,yr⟩):=by show _=_;unfold infoAt;rw [Int.toNat_natCast,hy.out];rfl
 rw [HY.out]
 have hmk:=hR.mask _ (mem_of_at hy.out)
 have hkd:=hR.kids j _ hy.out
 have hyr:=hlr _ (mem_of_at hy.out)
 dsimp only at hmk hkd hyr
 obtain⟨a,rfl⟩:∃ a:Nat,ym=a:=⟨ym.toNat,by omega⟩
 obtain⟨za1,za2,za3,za4⟩:=sizeAt_at hZ (m:=(a:Int)) (by omega) hmk.2
 rw [Int.toNat_natCast]at za1 za2
 have hanz:a<nz:=by have:=hz.len;omega
 obtain⟨bZ,oZ,s,rfl,hcs,hIs,hxs⟩:=hz.ati hanz
 have HS:Hid (sizeAt z (a:Int)=s):=by show _=_;have:=hxs.out;rw [za2]at this;injection this
 rw [HS.out]at za3 za4
 clear za1 za2 hxs
 have hc0':=cells_below hB _ _ hc0
 have hc1':=cells_below hB _ _ hc1
 have hc2':=cells_below hB _ _ hc2
 have hc3':=cells_below hB _ _ hc3
 go_enter Tryz.func192,Tryz.ntmps192
 go_upto_region 2 with fail
 have lenm':csm.length=30:=lenm
 clear lenm hc0 hc1 hc2 hc3
 have hBy:=(Below.refl (w.alloc (.cells csm.toArray 50)).heap.size (w.alloc (.cells csm.toArray 50))).alloc (Nat.le_refl _) (.cells #[.int .i64 a,.int .i64 yo,.int .i64 yl,.int .i64 yr] 153)
 have bxy:=Bx.new (w.alloc (.cells csm.toArray 50)) [.int .i64 a,.int .i64 yo,.int .i64 yl,.int .i64 yr] 153
 simp only [World.size_alloc]at bxy
 obtain⟨wn,hwn⟩:∃ W,W=(w.alloc (.cells csm.toArray 50)).alloc (.cells #[.int .i64 a,.int .i64 yo,.int .i64 yl,.int .i64 yr] 153):=⟨_,rfl⟩
 rw [<- hwn]at hBy bxy ⊢
 clear hwn hc0' hc1' hc2' hc3'
 replace hB:=hB.trans (hBy.mono hB.size)
 replace bxm:=bxm.below hBy
 clear hBy
 go_wp2_with (refine wpList_load_mid rfl 50 _ rfl w.heap.size 0 rfl csm _ bxm.range Tryz.underlying50 rfl (by rw [lenm'];exact sizeModel) ?_)
 refine(sModelOp_c _ m k _ ((rModel_ok NB).keep rm (cells_below hB))).mono ?_
 rintro e w1 ⟨A1,n1,c1,rfl,ro,hb1⟩
 replace hB:=hB.trans (hb1.mono hB.size)
 replace bxm:=bxm.below hb1
 replace bxy:=bxy.below hb1
 clear hb1
 obtain⟨o,ho⟩:∃ o,o=opOf m k:=⟨_,rfl⟩
 rw [<- ho]at ro ⊢
 have HO:=Lib.hid ho;clear ho
 go_upto_region 3 with fail
 have bxo:=Bx.new w1 [.int .i64 o.fFixed,.int .i64 o.fPerLeft,.int .i64 o.fPerRight,.int .i64 o.fPerOutput,.int .i64 o.fPerPair,.slice A1 n1 c1] 48
 have hBo:=(Below.refl w1.heap.size w1).alloc (Nat.le_refl _) (.cells #[.int .i64 o.fFixed,.int .i64 o.fPerLeft,.int .i64 o.fPerRight,.int .i64 o.fPerOutput,.int .i64 o.fPerPair,.slice A1 n1 c1] 48)
 obtain⟨wo,hwo⟩:∃ W,W=w1.alloc (.cells #[.int .i64 o.fFixed,.int .i64 o.fPerLeft,.int .i64 o.fPerRight,.int .i64 o.fPerOutput,.int .i64 o.fPerPair,.slice A1 n1 c1] 48):=⟨_,rfl⟩
 rw [<- hwo]at hBo bxo ⊢
 clear hwo
 replace hB:=hB.trans (hBo.mono hB.size)
 replace bxm:=bxm.below hBo
 replace bxy:=bxy.below hBo
 replace ro:=(rOperator_ok NB).keep ro (cells_below hBo)
 clear hBo
 obtain⟨g,hg⟩:∃ g,g=w1.heap.size:=⟨_,rfl⟩
 rw [<- hg]at bxo ⊢
 clear hg
 replace hcs:=cells_below hB _ _ hcs
 by_cases hl0:yl<0
 ·have hr0:=hyr hl0
  clear hyr hkd
  have K1:Hid (∀ W,Below wo.heap.size wo W->Calls Tryz.prog 172 #[.agg #[.int .i64 o.fFixed,.int .i64 o.fPerLeft,.int .i64 o.fPerRight,.int .i64 o.fPerOutput,.int .i64 o.fPerPair,.slice A1 n1 c1],.int .i64 s,.int .i64 0,.int .i64 s] W fun e w'=>e=.returned (.int .i64 (opCostV o s 0 s))/\Below W.heap.size W w'):=by
   show ∀ W,_->_
   exact fun W hW=>sOpCost_c _ o s 0 s W ((rOperator_ok NB).keep ro (cells_below hW))
  have HSS:Hid (∀ w',Below wo.heap.size wo w'->(w'.cell? ⟨g,0,none⟩=some (.int .i64 o.fFixed)/\w'.cell? ⟨g,1,none⟩=some (.int .i64 o.fPerLeft)/\w'.cell? ⟨g,2,none⟩=some (.int .i64 o.fPerRight)/\w'.cell? ⟨g,3,none⟩=some (.int .i64 o.fPerOutput)/\w'.cell? ⟨g,4,none⟩=some (.int .i64 o.fPerPair)/\w'.cell? ⟨g,5,none⟩=some (.slice A1 n1 c1)/\w'.cell? ⟨w.heap.size+1,0,none⟩=some (.int .i64 a)/\w'.cell? ⟨bZ,oZ+a,none⟩=some (.int .i64 s))):=by
   show ∀ w',_->_
   intro w' hc
   exact⟨(bxo.below hc) 0 _ rfl,(bxo.below hc) 1 _ rfl,(bxo.below hc) 2 _ rfl,(bxo.below hc) 3 _ rfl,(bxo.below hc) 4 _ rfl,(bxo.below hc) 5 _ rfl,(bxy.below hc) 0 _ rfl,cells_below hc _ _ hcs⟩
  have ky2:=bxy 2 _ rfl
  have ky3:=bxy 3 _ rfl
  go_wp2
  refine hbg HSS.out (Below.refl _ _).drew (fun hHeld=>?_)
  refine tka 0 23 hHeld ?_;simp only [putS]
  refine tka 1 24 hHeld ?_;simp only [putS]
  refine tka 2 25 hHeld ?_;simp only [putS]
  refine tka 3 26 hHeld ?_;simp only [putS]
  refine tka 4 27 hHeld ?_;simp only [putS]
  refine tka 5 28 hHeld ?_;simp only [putS]
  refine tka 6 29 hHeld ?_;simp only [putS]
  refine tka 7 30 hHeld ?_;simp only [putS]
  refine tka 8 31 hHeld ?_;simp only [putS]
  refine tka 9 32 hHeld ?_;simp only [putS]
  refine tka 10 33 hHeld ?_;simp only [putS]
  refine rd 11 (some 34) fun K hK=>?_
  clear hHeld
  go_simp
  refine(K1.out _ (Below.refl wo.heap.size wo).drew).mono ?_
  rintro e w2 ⟨rfl,hb2⟩
  go_wp2_with fail
  refine hK.out _ _ (HSS.out _ ((Below.refl wo.heap.size wo).drew.trans (hb2.mono (by simp)))) (fun hHeld=>?_)
  clear hK K
  try simp only [putS]
  refine tka 12 10 hHeld ?_;simp only [putS]
  refine wpAnyH_done (by kernel_rfl) ?_ _
  clear hHeld
  go_wp2
  go_ret
  exact⟨ret_int (by rw [HO.out];exact(costScan hl0 hr0 HS.out).symm),hB.trans (((Below.refl wo.heap.size wo).drew.trans (hb2.mono (by simp))).mono hB.size)⟩
 clear hyr
 have hll:=hl.len
 have hjn:(j:Int)<nl:=by omega
 obtain⟨x,rfl⟩:∃ x:Nat,yl=x:=⟨yl.toNat,by omega⟩
 have hxx:x<nl:=by omega
 obtain⟨b',o',⟨a1m,a1o,a1l,a1r⟩,e',hdx,_,_,_,_,_,_,_,hxy⟩:=hl.eStepInfo (k:=x) hxx
 injection e' with e';injection e' with e1 e2;subst e1;subst e2
 dsimp only at hdx
 have hmx:=hR.mask _ (mem_of_at hxy.out)
 dsimp only at hmx
 obtain⟨a1,rfl⟩:∃ a:Nat,a1m=a:=⟨a1m.toNat,by omega⟩
 obtain⟨zx1,zx2,zx3,zx4⟩:=sizeAt_at hZ (m:=(a1:Int)) (by omega) hmx.2
 rw [Int.toNat_natCast]at zx1 zx2
 have hax:a1<nz:=by have:=hz.len;omega
 obtain⟨b',o',s1,e',hex,hIx,hkx⟩:=hz.ati hax
 injection e' with e';injection e' with e1 e2;subst e1;subst e2
 have HSx:Hid (sizeAt z (a1:Int)=s1):=by show _=_;have:=hkx.out;rw [zx2]at this;injection this
 rw [HSx.out]at zx3 zx4
 clear zx1 zx2 hkx
 replace hdx:=cells_below hB _ _ hdx
 replace hex:=cells_below hB _ _ hex
 clear hl0
 by_cases hr0:yr<0
 ·have K1:Hid (∀ W,Below wo.heap.size wo W->Calls Tryz.prog 172 #[.agg #[.int .i64 o.fFixed,.int .i64 o.fPerLeft,.int .i64 o.fPerRight,.int .i64 o.fPerOutput,.int .i64 o.fPerPair,.slice A1 n1 c1],.int .i64 s1,.int .i64 0,.int .i64 s] W fun e w'=>e=.returned (.int .i64 (opCostV o s1 0 s))/\Below W.heap.size W w'):=by
   show ∀ W,_->_
   exact fun W hW=>sOpCost_c _ o s1 0 s W ((rOperator_ok NB).keep ro (cells_below hW))
  have HSS:Hid (∀ w',Below wo.heap.size wo w'->(w'.cell? ⟨g,0,none⟩=some (.int .i64 o.fFixed)/\w'.cell? ⟨g,1,none⟩=some (.int .i64 o.fPerLeft)/\w'.cell? ⟨g,2,none⟩=some (.int .i64 o.fPerRight)/\w'.cell? ⟨g,3,none⟩=some (.int .i64 o.fPerOutput)/\w'.cell? ⟨g,4,none⟩=some (.int .i64 o.fPerPair)/\w'.cell? ⟨g,5,none⟩=some (.slice A1 n1 c1)/\w'.cell? ⟨w.heap.size+1,0,none⟩=some (.int .i64 a)/\w'.cell? ⟨bZ,oZ+a,none⟩=some (.int .i64 s)/\w'.cell? ⟨w.heap.size+1,2,none⟩=some (.int .i64 x)/\w'.cell? ⟨bI,oI+x*4,none⟩=some (.int .i64 a1)/\w'.cell? ⟨bZ,oZ+a1,none⟩=some (.int .i64 s1))):=by
   show ∀ w',_->_
   intro w' hc
   exact⟨(bxo.below hc) 0 _ rfl,(bxo.below hc) 1 _ rfl,(bxo.below hc) 2 _ rfl,(bxo.below hc) 3 _ rfl,(bxo.below hc) 4 _ rfl,(bxo.below hc) 5 _ rfl,(bxy.below hc) 0 _ rfl,cells_below hc _ _ hcs,(bxy.below hc) 2 _ rfl,cells_below hc _ _ hdx,cells_below hc _ _ hex⟩
  have ky2:=bxy 2 _ rfl
  have ky3:=bxy 3 _ rfl
  go_wp2
  refine hbg HSS.out (Below.refl _ _).drew (fun hHeld=>?_)
  refine tka 0 38 hHeld ?_;simp only [putS]
  refine tka 1 39 hHeld ?_;simp only [putS]
  refine tka 2 40 hHeld ?_;simp only [putS]
  refine tka 3 41 hHeld ?_;simp only [putS]
  refine tka 4 42 hHeld ?_;simp only [putS]
  refine tka 5 43 hHeld ?_;simp only [putS]
  refine tka 6 44 hHeld ?_;simp only [putS]
  refine tka 7 45 hHeld ?_;simp only [putS]
  refine tka 8 46 hHeld ?_;simp only [putS]
  refine tka 9 47 hHeld ?_;simp only [putS]
  refine tka 10 48 hHeld ?_;simp only [putS]
  refine tka 11 49 hHeld ?_;simp only [putS]
  refine tka 12 50 hHeld ?_;simp only [putS]
  refine tka 13 51 hHeld ?_;simp only [putS]
  refine tka 14 52 hHeld ?_;simp only [putS]
  refine rd 15 (some 53) fun K hK=>?_
  clear hHeld
  go_simp
  refine(K1.out _ (Below.refl wo.heap.size wo).drew).mono ?_
  rintro e w2 ⟨rfl,hb2⟩
  go_wp2_with fail
  refine hK.out _ _ (HSS.out _ ((Below.refl wo.heap.size wo).drew.trans (hb2.mono (by simp)))) (fun hHeld=>?_)
  clear hK K
  try simp only [putS]
  refine tka 16 10 hHeld ?_;simp only [putS]
  refine wpAnyH_done (by kernel_rfl) ?_ _
  clear hHeld
  go_wp2
  go_ret
  exact⟨ret_int (by rw [HO.out];exact(costSort rfl hr0 hxy.out HS.out HSx.out).symm),hB.trans (((Below.refl wo.heap.size wo).drew.trans (hb2.mono (by simp))).mono hB.size)⟩
 obtain⟨x2,rfl⟩:∃ x:Nat,yr=x:=⟨yr.toNat,by omega⟩
 have hxx2:x2<nl:=by omega
 obtain⟨b',o',⟨a2m,a2o,a2l,a2r⟩,e',hdx2,_,_,_,_,_,_,_,hx2y⟩:=hl.eStepInfo (k:=x2) hxx2
 injection e' with e';injection e' with e1 e2;subst e1;subst e2
 dsimp only at hdx2
 have hmx2:=hR.mask _ (mem_of_at hx2y.out)
 dsimp only at hmx2
 obtain⟨a2,rfl⟩:∃ a:Nat,a2m=a:=⟨a2m.toNat,by omega⟩
 obtain⟨zx21,zx22,zx23,zx24⟩:=sizeAt_at hZ (m:=(a2:Int)) (by omega) hmx2.2
 rw [Int.toNat_natCast]at zx21 zx22
 have hax2:a2<nz:=by have:=hz.len;omega
 obtain⟨b',o',s2,e',hex2,hIx2,hkx2⟩:=hz.ati hax2
 injection e' with e';injection e' with e1 e2;subst e1;subst e2
 have HSx2:Hid (sizeAt z (a2:Int)=s2):=by show _=_;have:=hkx2.out;rw [zx22]at this;injection this
 rw [HSx2.out]at zx23 zx24
 clear zx21 zx22 hkx2
 replace hdx2:=cells_below hB _ _ hdx2
 replace hex2:=cells_below hB _ _ hex2
 have K1:Hid (∀ W,Below wo.heap.size wo W->Calls Tryz.prog 172 #[.agg #[.int .i64 o.fFixed,.int .i64 o.fPerLeft,.int .i64 o.fPerRight,.int .i64 o.fPerOutput,.int .i64 o.fPerPair,.slice A1 n1 c1],.int .i64 s1,.int .i64 s2,.int .i64 s] W fun e w'=>e=.returned (.int .i64 (opCostV o s1 s2 s))/\Below W.heap.size W w'):=by
  show ∀ W,_->_
  exact fun W hW=>sOpCost_c _ o s1 s2 s W ((rOperator_ok NB).keep ro (cells_below hW))
 have HSS:Hid (∀ w',Below wo.heap.size wo w'->(w'.cell? ⟨g,0,none⟩=some (.int .i64 o.fFixed)/\w'.cell? ⟨g,1,none⟩=some (.int .i64 o.fPerLeft)/\w'.cell? ⟨g,2,none⟩=some (.int .i64 o.fPerRight)/\w'.cell? ⟨g,3,none⟩=some (.int .i64 o.fPerOutput)/\w'.cell? ⟨g,4,none⟩=some (.int .i64 o.fPerPair)/\w'.cell? ⟨g,5,none⟩=some (.slice A1 n1 c1)/\w'.cell? ⟨w.heap.size+1,0,none⟩=some (.int .i64 a)/\w'.cell? ⟨bZ,oZ+a,none⟩=some (.int .i64 s)/\w'.cell? ⟨w.heap.size+1,2,none⟩=some (.int .i64 x)/\w'.cell? ⟨bI,oI+x*4,none⟩=some (.int .i64 a1)/\w'.cell? ⟨bZ,oZ+a1,none⟩=some (.int .i64 s1)/\w'.cell? ⟨w.heap.size+1,3,none⟩=some (.int .i64 x2)/\w'.cell? ⟨bI,oI+x2*4,none⟩=some (.int .i64 a2)/\w'.cell? ⟨bZ,oZ+a2,none⟩=some (.int .i64 s2))):=by
  show ∀ w',_->_
  intro w' hc
  exact⟨(bxo.below hc) 0 _ rfl,(bxo.below hc) 1 _ rfl,(bxo.below hc) 2 _ rfl,(bxo.below hc) 3 _ rfl,(bxo.below hc) 4 _ rfl,(bxo.below hc) 5 _ rfl,(bxy.below hc) 0 _ rfl,cells_below hc _ _ hcs,(bxy.below hc) 2 _ rfl,cells_below hc _ _ hdx,cells_below hc _ _ hex,(bxy.below hc) 3 _ rfl,cells_below hc _ _ hdx2,cells_below hc _ _ hex2⟩
 have ky2:=bxy 2 _ rfl
 have ky3:=bxy 3 _ rfl
 go_wp2
 refine hbg HSS.out (Below.refl _ _).drew (fun hHeld=>?_)
 refine tka 0 54 hHeld ?_;simp only [putS]
 refine tka 1 55 hHeld ?_;simp only [putS]
 refine tka 2 56 hHeld ?_;simp only [putS]
 refine tka 3 57 hHeld ?_;simp only [putS]
 refine tka 4 58 hHeld ?_;simp only [putS]
 refine tka 5 59 hHeld ?_;simp only [putS]
 refine tka 6 60 hHeld ?_;simp only [putS]
 refine tka 7 61 hHeld ?_;simp only [putS]
 refine tka 8 62 hHeld ?_;simp only [putS]
 refine tka 9 63 hHeld ?_;simp only [putS]
 refine tka 10 64 hHeld ?_;simp only [putS]
 refine tka 11 65 hHeld ?_;simp only [putS]
 refine tka 12 66 hHeld ?_;simp only [putS]
 refine tka 13 67 hHeld ?_;simp only [putS]
 refine tka 14 68 hHeld ?_;simp only [putS]
 refine tka 15 69 hHeld ?_;simp only [putS]
 refine tka 16 70 hHeld ?_;simp only [putS]
 refine tka 17 71 hHeld ?_;simp only [putS]
 refine tka 18 72 hHeld ?_;simp only [putS]
 refine tka 19 73 hHeld ?_;simp only [putS]
 refine tka 20 74 hHeld ?_;simp only [putS]
 refine tka 21 75 hHeld ?_;simp only [putS]
 refine tka 22 76 hHeld ?_;simp only [putS]
 refine tka 23 77 hHeld ?_;simp only [putS]
 refine rd 24 (some 78) fun K hK=>?_
 clear hHeld
 go_simp
 refine(K1.out _ (Below.refl wo.heap.size wo).drew).mono ?_
 rintro e w2 ⟨rfl,hb2⟩
 go_wp2_with fail
 refine hK.out _ _ (HSS.out _ ((Below.refl wo.heap.size wo).drew.trans (hb2.mono (by simp)))) (fun hHeld=>?_)
 clear hK K
 try simp only [putS]
 refine tka 25 10 hHeld ?_;simp only [putS]
 refine wpAnyH_done (by kernel_rfl) ?_ _
 clear hHeld
 go_wp2
 go_ret
 exact⟨ret_int (by rw [HO.out];exact(costJoin rfl rfl hxy.out hx2y.out HS.out HSx.out HSx2.out).symm),hB.trans (((Below.refl wo.heap.size wo).drew.trans (hb2.mono (by simp))).mono hB.size)⟩
end Go.Proofs.YtcfmidbioecdcaaGreat
