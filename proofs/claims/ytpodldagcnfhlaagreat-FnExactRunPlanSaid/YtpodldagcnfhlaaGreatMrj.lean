/-
  Mrj
-/
import Derived.Test.YtpodldagcnfhlaaGreatMrp
import Derived.Test.YtpodldagcnfhlaaGreatJnI
namespace Go.Proofs.YtpodldagcnfhlaaGreat
open Go.RowKit
set_option linter.unusedVariables false
set_option linter.unusedSimpArgs false
set_option maxRecDepth 100000 in
set_option maxHeartbeats 1600000 in
theorem iMergeJoin_c (csx:List Value) (x:StreamD) (csy:List Value) (y:StreamD) (v:Int) (w:World) (hx:(rStream NB).rep w csx x) (hy:(rStream NB).rep w csy y) :
  Calls Tryz.prog 154 #[.agg csx.toArray,.agg csy.toArray,.int .i64 v] w (RetVB (rStream NB) (mergeJoin x y v).1 (.bool (mergeJoin x y v).2) w):=by
 have rx:=hx
 obtain⟨AxVars,nxVars,cxVars,AxRows,nxRows,cxRows,rfl,hxVars,hxRows⟩:=rStream_rep.1 hx
 clear hx
 have ry:=hy
 obtain⟨AyVars,nyVars,cyVars,AyRows,nyRows,cyRows,rfl,hyVars,hyRows⟩:=rStream_rep.1 hy
 clear hy
 have hB:Below w.heap.size w w:=Below.refl _ _
 have hAx:=(Below.refl (World.heap (w)).size (w)).alloc (Nat.le_refl _) (.cells #[.slice AxVars nxVars cxVars,.slice AxRows nxRows cxRows] 35)
 replace hB:=hB.trans (hAx.mono hB.size)
 have bxx:=Bx.new (w) [.slice AxVars nxVars cxVars,.slice AxRows nxRows cxRows] 35
 clear hAx
 have hAy:=(Below.refl (World.heap ((w).alloc (.cells #[.slice AxVars nxVars cxVars,.slice AxRows nxRows cxRows] 35))).size ((w).alloc (.cells #[.slice AxVars nxVars cxVars,.slice AxRows nxRows cxRows] 35))).alloc (Nat.le_refl _) (.cells #[.slice AyVars nyVars cyVars,.slice AyRows nyRows cyRows] 35)
 replace hB:=hB.trans (hAy.mono hB.size)
 replace bxx:=bxx.below hAy
 have bxy:=Bx.new ((w).alloc (.cells #[.slice AxVars nxVars cxVars,.slice AxRows nxRows cxRows] 35)) [.slice AyVars nyVars cyVars,.slice AyRows nyRows cyRows] 35
 simp only [World.size_alloc]at bxy
 clear hAy
 have hnx:=hxRows.bound
 have hny:=hyRows.bound
 obtain⟨wa,hwa⟩:∃ wa,wa=(w.alloc (.cells #[.slice AxVars nxVars cxVars,.slice AxRows nxRows cxRows] 35)).alloc (.cells #[.slice AyVars nyVars cyVars,.slice AyRows nyRows cyRows] 35):=⟨_,rfl⟩
 rw [<- hwa]at hB bxx bxy
 have hsa:wa.heap.size=w.heap.size+1+1:=by rw [hwa];simp
 have hBA:=(Below.refl wa.heap.size wa).alloc (Nat.le_refl _) (.cells #[.slice none 0 0,.slice none 0 0] 35)
 have bkR:=Bk.new wa [.slice none 0 0,.slice none 0 0] 35
 replace hB:=hB.trans (hBA.mono hB.size)
 replace bxx:=bxx.below hBA
 replace bxy:=bxy.below hBA
 clear hBA
 rw [hwa]at hB bxx bxy bkR hsa
 have HSA:=Lib.hid hsa;clear hsa
 simp only [World.size_alloc]at bkR
 clear hwa
 go_enter Tryz.func154,Tryz.ntmps154
 have kx_0:=bxx 0 _ rfl
 have kx_1:=bxx 1 _ rfl
 go_wp2_with fail
 refine(iIsSortedStream_c _ x v _ ((rStream_ok NB).keep rx (cells_below hB))).mono ?_
 rintro e w1 ⟨rfl,hb1⟩
 replace hB:=hB.trans (hb1.mono hB.size)
 replace bxx:=bxx.below hb1
 replace bxy:=bxy.below hb1
 replace bkR:=bkR.below hb1
 clear hb1 kx_0 kx_1
 cases e1:isSorted x v
 ·have rf0:=bkR.frozen 0
  have rf1:=bkR.frozen 1
  have rc0:=bkR.bx 0 _ rfl
  have rc1:=bkR.bx 1 _ rfl
  have rl:=bkR.lt
  have he:mergeJoin x y v=(⟨[],[]⟩,false):=by simp [mergeJoin,e1]
  have HE:=Lib.hid he;clear he e1
  go_wp2
  have bk3:=(bkR.set 0 (.slice none 0 0)).set 1 (.slice none 0 0)
  have q0:=bk3.bx 0 _ rfl
  have q1:=bk3.bx 1 _ rfl
  refine bodyPost_ret (v:=.tuple #[.agg #[.slice none 0 0,.slice none 0 0],.bool false]) (by simp [results,Tryz.results154,go_sem,q0,q1]) rfl ?_
  rw [HE.out]
  exact⟨[.slice none 0 0,.slice none 0 0],[],rfl,zStream_own _,Fr.nil _,bset2 hB (by omega) _ _⟩
 have ky_0:=bxy 0 _ rfl
 have ky_1:=bxy 1 _ rfl
 go_wp2_with fail
 refine(iIsSortedStream_c _ y v _ ((rStream_ok NB).keep ry (cells_below hB))).mono ?_
 rintro e w2 ⟨rfl,hb2⟩
 replace hB:=hB.trans (hb2.mono hB.size)
 replace bxx:=bxx.below hb2
 replace bxy:=bxy.below hb2
 replace bkR:=bkR.below hb2
 clear hb2 ky_0 ky_1
 cases e2:isSorted y v
 ·have rf0:=bkR.frozen 0
  have rf1:=bkR.frozen 1
  have rc0:=bkR.bx 0 _ rfl
  have rc1:=bkR.bx 1 _ rfl
  have rl:=bkR.lt
  have he:mergeJoin x y v=(⟨[],[]⟩,false):=by simp [mergeJoin,e2]
  have HE:=Lib.hid he;clear he e2
  go_wp2
  have bk3:=(bkR.set 0 (.slice none 0 0)).set 1 (.slice none 0 0)
  have q0:=bk3.bx 0 _ rfl
  have q1:=bk3.bx 1 _ rfl
  refine bodyPost_ret (v:=.tuple #[.agg #[.slice none 0 0,.slice none 0 0],.bool false]) (by simp [results,Tryz.results154,go_sem,q0,q1]) rfl ?_
  rw [HE.out]
  exact⟨[.slice none 0 0,.slice none 0 0],[],rfl,zStream_own _,Fr.nil _,bset2 hB (by omega) _ _⟩
 have HE:Hid (mergeJoin x y v=nestedJoin x y):=by show _=_;simp [mergeJoin,e1,e2]
 clear e1 e2
 have kx_0:=bxx 0 _ rfl
 have kx_1:=bxx 1 _ rfl
 have ky_0:=bxy 0 _ rfl
 have ky_1:=bxy 1 _ rfl
 go_wp2_with fail
 refine(iNestedJoin_c _ x _ y _ ((rStream_ok NB).keep rx (cells_below hB)) ((rStream_ok NB).keep ry (cells_below hB))).mono ?_
 rintro e w5 ⟨cs5,fp5,rfl,o5,fr5,hb5⟩
 obtain⟨B1,m1,d1,B2,m2,d2,f1,f2,rfl,rfl,oL,oH⟩:=rStream_own.1 o5
 have bkR5:=bkR.below hb5
 have rf0:=bkR5.frozen 0
 have rf1:=bkR5.frozen 1
 have rc0:=bkR5.bx 0 _ rfl
 have rc1:=bkR5.bx 1 _ rfl
 have rl:=bkR5.lt
 go_wp2
 have bk3:=(bkR5.set 0 (.slice B1 m1 d1)).set 1 (.slice B2 m2 d2)
 have q0:=bk3.bx 0 _ rfl
 have q1:=bk3.bx 1 _ rfl
 refine bodyPost_ret (v:=.tuple #[.agg #[.slice B1 m1 d1,.slice B2 m2 d2],.bool (nestedJoin x y).2]) (by simp [results,Tryz.results154,go_sem,q0,q1]) rfl ?_
 rw [HE.out]
 exact jfin2 (cs:=[.slice B1 m1 d1,.slice B2 m2 d2]) ⟨_,o5,fr5⟩ bkR.lt (by omega) (hB.trans (hb5.mono hB.size))
set_option maxRecDepth 100000 in
set_option maxHeartbeats 1600000 in
theorem sMergeJoin_c (csx:List Value) (x:StreamD) (csy:List Value) (y:StreamD) (v:Int) (w:World) (hx:(rStream NB).rep w csx x) (hy:(rStream NB).rep w csy y) :
  Calls Tryz.prog 148 #[.agg csx.toArray,.agg csy.toArray,.int .i64 v] w (RetVB (rStream NB) (mergeJoin x y v).1 (.bool (mergeJoin x y v).2) w):=by
 have rx:=hx
 obtain⟨AxVars,nxVars,cxVars,AxRows,nxRows,cxRows,rfl,hxVars,hxRows⟩:=rStream_rep.1 hx
 clear hx
 have ry:=hy
 obtain⟨AyVars,nyVars,cyVars,AyRows,nyRows,cyRows,rfl,hyVars,hyRows⟩:=rStream_rep.1 hy
 clear hy
 have hB:Below w.heap.size w w:=Below.refl _ _
 have hAx:=(Below.refl (World.heap (w)).size (w)).alloc (Nat.le_refl _) (.cells #[.slice AxVars nxVars cxVars,.slice AxRows nxRows cxRows] 35)
 replace hB:=hB.trans (hAx.mono hB.size)
 have bxx:=Bx.new (w) [.slice AxVars nxVars cxVars,.slice AxRows nxRows cxRows] 35
 clear hAx
 have hAy:=(Below.refl (World.heap ((w).alloc (.cells #[.slice AxVars nxVars cxVars,.slice AxRows nxRows cxRows] 35))).size ((w).alloc (.cells #[.slice AxVars nxVars cxVars,.slice AxRows nxRows cxRows] 35))).alloc (Nat.le_refl _) (.cells #[.slice AyVars nyVars cyVars,.slice AyRows nyRows cyRows] 35)
 replace hB:=hB.trans (hAy.mono hB.size)
 replace bxx:=bxx.below hAy
 have bxy:=Bx.new ((w).alloc (.cells #[.slice AxVars nxVars cxVars,.slice AxRows nxRows cxRows] 35)) [.slice AyVars nyVars cyVars,.slice AyRows nyRows cyRows] 35
 simp only [World.size_alloc]at bxy
 clear hAy
 have hnx:=hxRows.bound
 have hny:=hyRows.bound
 obtain⟨wa,hwa⟩:∃ wa,wa=(w.alloc (.cells #[.slice AxVars nxVars cxVars,.slice AxRows nxRows cxRows] 35)).alloc (.cells #[.slice AyVars nyVars cyVars,.slice AyRows nyRows cyRows] 35):=⟨_,rfl⟩
 rw [<- hwa]at hB bxx bxy
 have hsa:wa.heap.size=w.heap.size+1+1:=by rw [hwa];simp
 have hBA:=(Below.refl wa.heap.size wa).alloc (Nat.le_refl _) (.cells #[.slice none 0 0,.slice none 0 0] 35)
 have bkR:=Bk.new wa [.slice none 0 0,.slice none 0 0] 35
 replace hB:=hB.trans (hBA.mono hB.size)
 replace bxx:=bxx.below hBA
 replace bxy:=bxy.below hBA
 clear hBA
 rw [hwa]at hB bxx bxy bkR hsa
 have HSA:=Lib.hid hsa;clear hsa
 simp only [World.size_alloc]at bkR
 clear hwa
 go_enter Tryz.func148,Tryz.ntmps148
 have kx_0:=bxx 0 _ rfl
 have kx_1:=bxx 1 _ rfl
 go_wp2_with fail
 refine(sIsSortedStream_c _ x v _ ((rStream_ok NB).keep rx (cells_below hB))).mono ?_
 rintro e w1 ⟨rfl,hb1⟩
 replace hB:=hB.trans (hb1.mono hB.size)
 replace bxx:=bxx.below hb1
 replace bxy:=bxy.below hb1
 replace bkR:=bkR.below hb1
 clear hb1 kx_0 kx_1
 cases e1:isSorted x v
 ·have rf0:=bkR.frozen 0
  have rf1:=bkR.frozen 1
  have rc0:=bkR.bx 0 _ rfl
  have rc1:=bkR.bx 1 _ rfl
  have rl:=bkR.lt
  have he:mergeJoin x y v=(⟨[],[]⟩,false):=by simp [mergeJoin,e1]
  have HE:=Lib.hid he;clear he e1
  go_wp2
  have bk3:=(bkR.set 0 (.slice none 0 0)).set 1 (.slice none 0 0)
  have q0:=bk3.bx 0 _ rfl
  have q1:=bk3.bx 1 _ rfl
  refine bodyPost_ret (v:=.tuple #[.agg #[.slice none 0 0,.slice none 0 0],.bool false]) (by simp [results,Tryz.results148,go_sem,q0,q1]) rfl ?_
  rw [HE.out]
  exact⟨[.slice none 0 0,.slice none 0 0],[],rfl,zStream_own _,Fr.nil _,bset2 hB (by omega) _ _⟩
 have ky_0:=bxy 0 _ rfl
 have ky_1:=bxy 1 _ rfl
 go_wp2_with fail
 refine(sIsSortedStream_c _ y v _ ((rStream_ok NB).keep ry (cells_below hB))).mono ?_
 rintro e w2 ⟨rfl,hb2⟩
 replace hB:=hB.trans (hb2.mono hB.size)
 replace bxx:=bxx.below hb2
 replace bxy:=bxy.below hb2
 replace bkR:=bkR.below hb2
 clear hb2 ky_0 ky_1
 cases e2:isSorted y v
 ·have rf0:=bkR.frozen 0
  have rf1:=bkR.frozen 1
  have rc0:=bkR.bx 0 _ rfl
  have rc1:=bkR.bx 1 _ rfl
  have rl:=bkR.lt
  have he:mergeJoin x y v=(⟨[],[]⟩,false):=by simp [mergeJoin,e2]
  have HE:=Lib.hid he;clear he e2
  go_wp2
  have bk3:=(bkR.set 0 (.slice none 0 0)).set 1 (.slice none 0 0)
  have q0:=bk3.bx 0 _ rfl
  have q1:=bk3.bx 1 _ rfl
  refine bodyPost_ret (v:=.tuple #[.agg #[.slice none 0 0,.slice none 0 0],.bool false]) (by simp [results,Tryz.results148,go_sem,q0,q1]) rfl ?_
  rw [HE.out]
  exact⟨[.slice none 0 0,.slice none 0 0],[],rfl,zStream_own _,Fr.nil _,bset2 hB (by omega) _ _⟩
 obtain⟨vx,t,hat,hso⟩:=isSorted_parts e1
 obtain⟨vy,_⟩:=isSorted_parts e2
 have HE:Hid (mergeJoin x y v=capS (unionI x.fVars y.fVars) (nestRows (fun p q=>joinBy x y p q) x.fRows y.fRows)):=by show _=_;simp [mergeJoin,e1,e2,nestedJoin,vx,vy]
 have HF:=Lib.hid (rowsTo_all (y:=y) (col_of vx (find_lt hat)) hso)
 have HAT:=Lib.hid hat
 have VX:=Lib.hid vx
 have VY:=Lib.hid vy
 clear e1 e2 hat hso vx vy
 have kx_0:=bxx 0 _ rfl
 have kx_1:=bxx 1 _ rfl
 have ky_0:=bxy 0 _ rfl
 have ky_1:=bxy 1 _ rfl
 have RX:=(hxRows.below (rSlice_ok NB _ rInt_ok) hB)
 have RY:=(hyRows.below (rSlice_ok NB _ rInt_ok) hB)
 have RVx:=(hxVars.below rInt_ok hB)
 have RVy:=(hyVars.below rInt_ok hB)
 go_wp2_with fail
 refine(sl27Union_c _ _ _ _ _ _ x.fVars y.fVars _ RVx RVy).mono ?_
 rintro e wu ⟨AV,nV,cV,rfl,hMV,hbu⟩
 have hV:=hMV.rs rInt_ok
 replace RX:=RX.below (rSlice_ok NB _ rInt_ok) hbu
 replace RY:=RY.below (rSlice_ok NB _ rInt_ok) hbu
 replace RVx:=RVx.below rInt_ok hbu
 replace RVy:=RVy.below rInt_ok hbu
 have bxx:=bxx.below hbu
 have bxy:=bxy.below hbu
 have bkB:=Bk.new wu [.slice AV nV cV,.slice none 0 0] 35
 have hAl:=(Below.refl wu.heap.size wu).alloc (Nat.le_refl _) (.cells #[.slice AV nV cV,.slice none 0 0] 35)
 obtain⟨wB,hwB⟩:∃ wB,wB=wu.alloc (.cells #[.slice AV nV cV,.slice none 0 0] 35):=⟨_,rfl⟩
 have hLow:∀ (AR:Option Addr) (nR cR:Nat),Below wu.heap.size wu (lmW wB wu.heap.size AR nR cR):=by
  intro AR nR cR;rw [hwB];exact hAl.setCell (Nat.le_refl _) _
 have hsB:wu.heap.size<=wB.heap.size:=by rw [hwB];exact hAl.size
 have hJ:Lm wB wu.heap.size (.slice AV nV cV) (cap4 (rowsTo x y t 0)) none 0 0 wB:=by
  rw [hwB];exact⟨Chg.refl _ _,bkB,MS.nil _ (Nat.zero_le _)⟩
 rw [<- hwB]at bkB
 have HLow:=Lib.hid hLow;clear hLow
 have HSB:=Lib.hid hsB;clear hsB hAl
 go_wp2_with fail
 rw [<- hwB]
 have HWB:=Lib.hid hwB;clear hwB
 go_loopw [9] (fun i wr=>∃ (k:Nat) (AR:Option Addr) (nR cR:Nat),k<=10/\i=.int .i64 k/\Lm wB wu.heap.size (.slice AV nV cV) (cap4 (rowsTo x y t k)) AR nR cR wr) (fun i _=>10 - (intOf i).toNat)
 case atStart=>exact⟨0,none,0,0,by omega,rfl,hJ⟩
 case round =>
  clear hJ
  obtain⟨k,AR,nR,cR,hk,rfl,hJ⟩:=hrel
  have low:=hJ.low bkB
  have hE:Below wu.heap.size wu wr:=(HLow.out AR nR cR).trans (low.mono (HLow.out AR nR cR).size)
  have kx0:=(bxx.below hE) 0 _ rfl
  have kx1:=(bxx.below hE) 1 _ rfl
  have ky0:=(bxy.below hE) 0 _ rfl
  have ky1:=(bxy.below hE) 1 _ rfl
  have ko0:=hJ.ko.bx 0 _ rfl
  have ko1:=hJ.ko.bx 1 _ rfl
  by_cases hlt:k<=9
  ·have hlt2:(k:Int)<=9:=by omega
   go_wp2_with fail
   refine(sl27JoinM_c _ _ _ _ _ _ _ _ _ _ _ _ _ _ _ _ _ _ x y (rowsTo x y t k) v (k:Int) t (by omega) HAT.out _ _ (RVx.below rInt_ok (HLow.out AR nR cR)) (RX.below (rSlice_ok NB _ rInt_ok) (HLow.out AR nR cR)) (RVy.below rInt_ok (HLow.out AR nR cR)) (RY.below (rSlice_ok NB _ rInt_ok) (HLow.out AR nR cR)) VX.out VY.out (hV.below rInt_ok (HLow.out AR nR cR)) hJ.rows low).mono ?_
   rintro e w9 ⟨AR2,nR2,cR2,rfl,hm,hb9⟩
   obtain⟨k3,hJ2⟩:=Lm.after bkB hb9 hm
   have of0:=k3.frozen 0
   have of1:=k3.frozen 1
   have oc0:=k3.bx 0 _ rfl
   have oc1:=k3.bx 1 _ rfl
   have ol:=k3.lt
   clear kx0 kx1 ky0 ky1 ko0 ko1
   go_wp2
   go_roundw
   case rel=>exact⟨k+1,AR2,nR2,cR2,by omega,by go_num,hJ2⟩
   case measure=>simp [intOf];omega
  ·have hk10:k=10:=by omega
   subst hk10
   rw [HF.out]at hJ
   have hlt2:¬ ((10:Nat):Int)<=9:=by omega
   have hO:OwnS wr w2.heap.size [.slice AV nV cV,.slice AR nR cR] ⟨unionI x.fVars y.fVars,cap4 (nestRows (fun p q=>joinBy x y p q) x.fRows y.fRows)⟩:=mkOwn hMV (hJ.ms.base HSB.out) hbu.size hE
   clear kx0 kx1 ky0 ky1
   go_wp2_with fail
   refine(sl27Done_c _ _ _ _ _ _ _ _ _ _ hO).mono ?_
   rintro e wd ⟨B1,m1,d1,B2,m2,d2,rfl,hO2,hbd⟩
   have hAd:=(Below.refl wd.heap.size wd).alloc (Nat.le_refl _) (.cells #[.slice B1 m1 d1,.slice B2 m2 d2] 35)
   have hb2:Below w2.heap.size w2 (wd.alloc (.cells #[.slice B1 m1 d1,.slice B2 m2 d2] 35)):=(hbu.trans (hE.mono hbu.size)).trans ((hbd.trans (hAd.mono hbd.size)).mono (Nat.le_trans hbu.size hE.size))
   have hO3:=hO2.below hAd
   have bkR5:=bkR.below hb2
   have rf0:=bkR5.frozen 0
   have rf1:=bkR5.frozen 1
   have rc0:=bkR5.bx 0 _ rfl
   have rc1:=bkR5.bx 1 _ rfl
   have rl:=bkR5.lt
   go_wp2
   have bk3:=(bkR5.set 0 (.slice B1 m1 d1)).set 1 (.slice B2 m2 d2)
   have q0:=bk3.bx 0 _ rfl
   have q1:=bk3.bx 1 _ rfl
   refine bodyPost_ret (v:=.tuple #[.agg #[.slice B1 m1 d1,.slice B2 m2 d2],.bool (capS (unionI x.fVars y.fVars) (nestRows (fun p q=>joinBy x y p q) x.fRows y.fRows)).2]) (by simp [results,Tryz.results148,go_sem,q0,q1]) rfl ?_
   rw [HE.out]
   exact jfin2 (cs:=[.slice B1 m1 d1,.slice B2 m2 d2]) hO3 bkR.lt (by omega) (hB.trans (hb2.mono hB.size))

end Go.Proofs.YtpodldagcnfhlaaGreat
