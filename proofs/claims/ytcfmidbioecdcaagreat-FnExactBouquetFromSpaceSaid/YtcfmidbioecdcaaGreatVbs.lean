/-
  Vbs
-/
import Derived.Test.YtcfmidbioecdcaaGreatKeep
import Derived.Test.YtcfmidbioecdcaaGreatVbp
namespace Go.Proofs.YtcfmidbioecdcaaGreat
open Go.RowKit
set_option linter.unusedVariables false
set_option linter.unusedSimpArgs false
set_option maxRecDepth 100000 in
set_option maxHeartbeats 1600000 in
theorem sIsValidBouquet_c (csq:List Value) (q:QueryD) (csb:List Value) (b:BouquetD) (w:World) (hq:(rQuery NB).rep w csq q) (hb:(rBouquet NB).rep w csb b) :
  Calls Tryz.prog 36 #[.agg csq.toArray,.agg csb.toArray] w fun e w'=>e=.returned (.bool (validBouquet q b))/\Below w.heap.size w w':=by
 have rq:=hq
 obtain⟨AqAtoms,nqAtoms,cqAtoms,rfl,hqVariableCount,hqAtoms⟩:=rQuery_rep.1 hq
 clear hq
 have rb:=hb
 obtain⟨AbBoxLow,nbBoxLow,cbBoxLow,AbBoxHigh,nbBoxHigh,cbBoxHigh,AbBudgets,nbBudgets,cbBudgets,AbPlans,nbPlans,cbPlans,AbContours,nbContours,cbContours,rfl,hbVersion,hbRatio,hbSlack,hbBoxLow,hbBoxHigh,hbBudgets,hbPlans,hbContours⟩:=rBouquet_rep.1 hb
 clear hb
 have hB:Below w.heap.size w w:=Below.refl _ _
 have hAq:=(Below.refl (World.heap (w)).size (w)).alloc (Nat.le_refl _) (.cells #[.int .i64 q.fVariableCount,.slice AqAtoms nqAtoms cqAtoms] 54)
 replace hB:=hB.trans (hAq.mono hB.size)
 have bxq:=Bx.new (w) [.int .i64 q.fVariableCount,.slice AqAtoms nqAtoms cqAtoms] 54
 clear hAq
 have hAb:=(Below.refl (World.heap ((w).alloc (.cells #[.int .i64 q.fVariableCount,.slice AqAtoms nqAtoms cqAtoms] 54))).size ((w).alloc (.cells #[.int .i64 q.fVariableCount,.slice AqAtoms nqAtoms cqAtoms] 54))).alloc (Nat.le_refl _) (.cells #[.int .i64 b.fVersion,.int .i64 b.fRatio,.int .i64 b.fSlack,.slice AbBoxLow nbBoxLow cbBoxLow,.slice AbBoxHigh nbBoxHigh cbBoxHigh,.slice AbBudgets nbBudgets cbBudgets,.slice AbPlans nbPlans cbPlans,.slice AbContours nbContours cbContours] 43)
 replace hB:=hB.trans (hAb.mono hB.size)
 replace bxq:=bxq.below hAb
 have bxb:=Bx.new ((w).alloc (.cells #[.int .i64 q.fVariableCount,.slice AqAtoms nqAtoms cqAtoms] 54)) [.int .i64 b.fVersion,.int .i64 b.fRatio,.int .i64 b.fSlack,.slice AbBoxLow nbBoxLow cbBoxLow,.slice AbBoxHigh nbBoxHigh cbBoxHigh,.slice AbBudgets nbBudgets cbBudgets,.slice AbPlans nbPlans cbPlans,.slice AbContours nbContours cbContours] 43
 simp only [World.size_alloc]at bxb
 clear hAb
 have hnP:=hbPlans.bound
 have hnB:=hbBudgets.bound
 have hnC:=hbContours.bound
 have HLP:=Lib.hid hbPlans.len
 have HLB:=Lib.hid hbBudgets.len
 have HLC:=Lib.hid hbContours.len
 have HLL:=Lib.hid hbBoxLow.len
 have hnL:=hbBoxLow.bound
 have hfm:=fullMask_bd q
 have hf0:=hfm.1
 have hf1:=hfm.2
 clear hfm
 have hbv:=boxVol_bd b.fBox
 have hbv0:=hbv.1
 have hbv1:=hbv.2
 clear hbv
 go_enter Tryz.func36,Tryz.ntmps36
 go_upto_region 1 with fail
 obtain⟨wb,hwb⟩:∃ W,W=(w.alloc (.cells #[.int .i64 q.fVariableCount,.slice AqAtoms nqAtoms cqAtoms] 54)).alloc (.cells #[.int .i64 b.fVersion,.int .i64 b.fRatio,.int .i64 b.fSlack,.slice AbBoxLow nbBoxLow cbBoxLow,.slice AbBoxHigh nbBoxHigh cbBoxHigh,.slice AbBudgets nbBudgets cbBudgets,.slice AbPlans nbPlans cbPlans,.slice AbContours nbContours cbContours] 43):=⟨_,rfl⟩
 rw [<- hwb]at hB bxq bxb ⊢
 clear hwb
 have HS1:Hid (∀ w',Below wb.heap.size wb w'->(w'.cell? ⟨w.heap.size,0,none⟩=some (.int .i64 q.fVariableCount)/\w'.cell? ⟨w.heap.size,1,none⟩=some (.slice AqAtoms nqAtoms cqAtoms)/\w'.cell? ⟨w.heap.size+1,0,none⟩=some (.int .i64 b.fVersion)/\w'.cell? ⟨w.heap.size+1,1,none⟩=some (.int .i64 b.fRatio)/\w'.cell? ⟨w.heap.size+1,2,none⟩=some (.int .i64 b.fSlack)/\w'.cell? ⟨w.heap.size+1,3,none⟩=some (.slice AbBoxLow nbBoxLow cbBoxLow)/\w'.cell? ⟨w.heap.size+1,4,none⟩=some (.slice AbBoxHigh nbBoxHigh cbBoxHigh))):=by
  show ∀ w',_->_
  intro w' hc
  exact⟨(bxq.below hc) 0 _ rfl,(bxq.below hc) 1 _ rfl,(bxb.below hc) 0 _ rfl,(bxb.below hc) 1 _ rfl,(bxb.below hc) 2 _ rfl,(bxb.below hc) 3 _ rfl,(bxb.below hc) 4 _ rfl⟩
 have RQ:Hid (∀ W,Below w.heap.size w W->(rQuery NB).rep W [.int .i64 q.fVariableCount,.slice AqAtoms nqAtoms cqAtoms] q):=by
  show ∀ W,_->_
  intro W hW
  exact((rQuery_ok NB).keep rq (cells_below hW))
 have RB:Hid (∀ W,Below w.heap.size w W->(rBox NB).rep W [.slice AbBoxLow nbBoxLow cbBoxLow,.slice AbBoxHigh nbBoxHigh cbBoxHigh] b.fBox):=by
  show ∀ W,_->_
  intro W hW
  exact(rBox_rep.2 ⟨AbBoxLow,nbBoxLow,cbBoxLow,AbBoxHigh,nbBoxHigh,cbBoxHigh,rfl,hbBoxLow.below rInt_ok hW,hbBoxHigh.below rInt_ok hW⟩)
 have HB0:=Lib.hid hB
 cases hh1:inR b.fVersion 1 999
 ·have C2:=Lib.hid hh1
  have K2:=Lib.hid (fun W=>l1In_v hh1 W)
  have HN:=Lib.hid (show validBouquet q b=false from vb_head (by simp [bqHead,C2.out]))
  clear hh1
  go_wp2
  refine hbg HS1.out (Below.refl _ _).drew (fun hHeld=>?_)
  refine tka 0 8 hHeld ?_;simp only [putS]
  refine tka 1 9 hHeld ?_;simp only [putS]
  refine rd 2 (some 10) fun K hK=>?_
  clear hHeld
  go_simp
  refine(K2.out _).mono ?_
  rintro e w' ⟨rfl,hww⟩;replace hww:=hww.symm;subst hww
  go_wp2_with fail
  refine hK.out _ _ (HS1.out _ (Below.refl wb.heap.size wb).drew) (fun hHeld=>?_)
  clear hK K
  try simp only [putS]
  refine tka 3 11 hHeld ?_;simp only [putS]
  refine tka 4 12 hHeld ?_;simp only [putS]
  refine tks 5 13 hHeld ?_;simp only [putS]
  refine tks 6 14 hHeld ?_;simp only [putS]
  refine tks 7 15 hHeld ?_;simp only [putS]
  refine tks 8 16 hHeld ?_;simp only [putS]
  refine tka 9 17 hHeld ?_;simp only [putS]
  refine tka 10 18 hHeld ?_;simp only [putS]
  refine tks 11 19 hHeld ?_;simp only [putS]
  refine tks 12 20 hHeld ?_;simp only [putS]
  refine tks 13 21 hHeld ?_;simp only [putS]
  refine tks 14 22 hHeld ?_;simp only [putS]
  refine tka 15 23 hHeld ?_;simp only [putS]
  refine tka 16 24 hHeld ?_;simp only [putS]
  refine tks 17 25 hHeld ?_;simp only [putS]
  refine tks 18 26 hHeld ?_;simp only [putS]
  refine tks 19 27 hHeld ?_;simp only [putS]
  refine tks 20 28 hHeld ?_;simp only [putS]
  refine tks 21 29 hHeld ?_;simp only [putS]
  refine tks 22 30 hHeld ?_;simp only [putS]
  refine tks 23 31 hHeld ?_;simp only [putS]
  refine tks 24 32 hHeld ?_;simp only [putS]
  refine tka 25 33 hHeld ?_;simp only [putS]
  refine tka 26 34 hHeld ?_;simp only [putS]
  refine tks 27 35 hHeld ?_;simp only [putS]
  refine tks 28 36 hHeld ?_;simp only [putS]
  refine tks 29 37 hHeld ?_;simp only [putS]
  refine tks 30 38 hHeld ?_;simp only [putS]
  refine tks 31 39 hHeld ?_;simp only [putS]
  refine tka 32 40 hHeld ?_;simp only [putS]
  refine wpAnyH_done (by kernel_rfl) ?_ _
  clear hHeld
  go_wp2
  go_ret
  exact⟨ret_bool (a:=false) HN.out.symm,HB0.out.trans (Below.mono (Below.refl wb.heap.size wb).drew HB0.out.size)⟩
 have C2:=Lib.hid hh1
 have K2:=Lib.hid (fun W=>l1In_v hh1 W)
 clear hh1
 cases hh2:inR b.fRatio 2 8
 ·have C3:=Lib.hid hh2
  have K3:=Lib.hid (fun W=>l1In_v hh2 W)
  have HN:=Lib.hid (show validBouquet q b=false from vb_head (by simp [bqHead,C3.out]))
  clear hh2
  go_wp2
  refine hbg HS1.out (Below.refl _ _).drew (fun hHeld=>?_)
  refine tka 0 8 hHeld ?_;simp only [putS]
  refine tka 1 9 hHeld ?_;simp only [putS]
  refine rd 2 (some 10) fun K hK=>?_
  clear hHeld
  go_simp
  refine(K2.out _).mono ?_
  rintro e w' ⟨rfl,hww⟩;replace hww:=hww.symm;subst hww
  go_wp2_with fail
  refine hK.out _ _ (HS1.out _ (Below.refl wb.heap.size wb).drew) (fun hHeld=>?_)
  clear hK K
  try simp only [putS]
  refine tka 3 11 hHeld ?_;simp only [putS]
  refine tka 4 12 hHeld ?_;simp only [putS]
  refine tka 5 13 hHeld ?_;simp only [putS]
  refine tka 6 14 hHeld ?_;simp only [putS]
  refine rd 7 (some 15) fun K hK=>?_
  clear hHeld
  go_simp
  refine(K3.out _).mono ?_
  rintro e w' ⟨rfl,hww⟩;replace hww:=hww.symm;subst hww
  go_wp2_with fail
  refine hK.out _ _ (HS1.out _ (Below.refl wb.heap.size wb).drew) (fun hHeld=>?_)
  clear hK K
  try simp only [putS]
  refine tka 8 16 hHeld ?_;simp only [putS]
  refine tka 9 17 hHeld ?_;simp only [putS]
  refine tka 10 18 hHeld ?_;simp only [putS]
  refine tks 11 19 hHeld ?_;simp only [putS]
  refine tks 12 20 hHeld ?_;simp only [putS]
  refine tks 13 21 hHeld ?_;simp only [putS]
  refine tks 14 22 hHeld ?_;simp only [putS]
  refine tka 15 23 hHeld ?_;simp only [putS]
  refine tka 16 24 hHeld ?_;simp only [putS]
  refine tks 17 25 hHeld ?_;simp only [putS]
  refine tks 18 26 hHeld ?_;simp only [putS]
  refine tks 19 27 hHeld ?_;simp only [putS]
  refine tks 20 28 hHeld ?_;simp only [putS]
  refine tks 21 29 hHeld ?_;simp only [putS]
  refine tks 22 30 hHeld ?_;simp only [putS]
  refine tks 23 31 hHeld ?_;simp only [putS]
  refine tks 24 32 hHeld ?_;simp only [putS]
  refine tka 25 33 hHeld ?_;simp only [putS]
  refine tka 26 34 hHeld ?_;simp only [putS]
  refine tks 27 35 hHeld ?_;simp only [putS]
  refine tks 28 36 hHeld ?_;simp only [putS]
  refine tks 29 37 hHeld ?_;simp only [putS]
  refine tks 30 38 hHeld ?_;simp only [putS]
  refine tks 31 39 hHeld ?_;simp only [putS]
  refine tka 32 40 hHeld ?_;simp only [putS]
  refine wpAnyH_done (by kernel_rfl) ?_ _
  clear hHeld
  go_wp2
  go_ret
  exact⟨ret_bool (a:=false) HN.out.symm,HB0.out.trans (Below.mono (Below.refl wb.heap.size wb).drew HB0.out.size)⟩
 have C3:=Lib.hid hh2
 have K3:=Lib.hid (fun W=>l1In_v hh2 W)
 clear hh2
 cases hh3:inR b.fSlack 0 100
 ·have C4:=Lib.hid hh3
  have K4:=Lib.hid (fun W=>l1In_v hh3 W)
  have HN:=Lib.hid (show validBouquet q b=false from vb_head (by simp [bqHead,C4.out]))
  clear hh3
  go_wp2
  refine hbg HS1.out (Below.refl _ _).drew (fun hHeld=>?_)
  refine tka 0 8 hHeld ?_;simp only [putS]
  refine tka 1 9 hHeld ?_;simp only [putS]
  refine rd 2 (some 10) fun K hK=>?_
  clear hHeld
  go_simp
  refine(K2.out _).mono ?_
  rintro e w' ⟨rfl,hww⟩;replace hww:=hww.symm;subst hww
  go_wp2_with fail
  refine hK.out _ _ (HS1.out _ (Below.refl wb.heap.size wb).drew) (fun hHeld=>?_)
  clear hK K
  try simp only [putS]
  refine tka 3 11 hHeld ?_;simp only [putS]
  refine tka 4 12 hHeld ?_;simp only [putS]
  refine tka 5 13 hHeld ?_;simp only [putS]
  refine tka 6 14 hHeld ?_;simp only [putS]
  refine rd 7 (some 15) fun K hK=>?_
  clear hHeld
  go_simp
  refine(K3.out _).mono ?_
  rintro e w' ⟨rfl,hww⟩;replace hww:=hww.symm;subst hww
  go_wp2_with fail
  refine hK.out _ _ (HS1.out _ (Below.refl wb.heap.size wb).drew) (fun hHeld=>?_)
  clear hK K
  try simp only [putS]
  refine tka 8 16 hHeld ?_;simp only [putS]
  refine tka 9 17 hHeld ?_;simp only [putS]
  refine tka 10 18 hHeld ?_;simp only [putS]
  refine tka 11 19 hHeld ?_;simp only [putS]
  refine tka 12 20 hHeld ?_;simp only [putS]
  refine rd 13 (some 21) fun K hK=>?_
  clear hHeld
  go_simp
  refine(K4.out _).mono ?_
  rintro e w' ⟨rfl,hww⟩;replace hww:=hww.symm;subst hww
  go_wp2_with fail
  refine hK.out _ _ (HS1.out _ (Below.refl wb.heap.size wb).drew) (fun hHeld=>?_)
  clear hK K
  try simp only [putS]
  refine tka 14 22 hHeld ?_;simp only [putS]
  refine tka 15 23 hHeld ?_;simp only [putS]
  refine tka 16 24 hHeld ?_;simp only [putS]
  refine tks 17 25 hHeld ?_;simp only [putS]
  refine tks 18 26 hHeld ?_;simp only [putS]
  refine tks 19 27 hHeld ?_;simp only [putS]
  refine tks 20 28 hHeld ?_;simp only [putS]
  refine tks 21 29 hHeld ?_;simp only [putS]
  refine tks 22 30 hHeld ?_;simp only [putS]
  refine tks 23 31 hHeld ?_;simp only [putS]
  refine tks 24 32 hHeld ?_;simp only [putS]
  refine tka 25 33 hHeld ?_;simp only [putS]
  refine tka 26 34 hHeld ?_;simp only [putS]
  refine tks 27 35 hHeld ?_;simp only [putS]
  refine tks 28 36 hHeld ?_;simp only [putS]
  refine tks 29 37 hHeld ?_;simp only [putS]
  refine tks 30 38 hHeld ?_;simp only [putS]
  refine tks 31 39 hHeld ?_;simp only [putS]
  refine tka 32 40 hHeld ?_;simp only [putS]
  refine wpAnyH_done (by kernel_rfl) ?_ _
  clear hHeld
  go_wp2
  go_ret
  exact⟨ret_bool (a:=false) HN.out.symm,HB0.out.trans (Below.mono (Below.refl wb.heap.size wb).drew HB0.out.size)⟩
 have C4:=Lib.hid hh3
 have K4:=Lib.hid (fun W=>l1In_v hh3 W)
 clear hh3
 have m1:IntKind.i64.wrap (fullMask q+1)=fullMask q+1:=IntWalk.i64_in _ (by omega)
 by_cases hl:(nbBoxLow:Int)=fullMask q+1
 rotate_left
 ·have lb:((nbBoxLow:Int) != fullMask q+1)=true:=by simp [hl]
  have HN:=Lib.hid (show validBouquet q b=false from vb_head (by unfold bqHead;rw [HLL.out,decide_eq_false hl,Bool.and_false]))
  clear hl
  go_wp2
  refine hbg HS1.out (Below.refl _ _).drew (fun hHeld=>?_)
  refine tka 0 8 hHeld ?_;simp only [putS]
  refine tka 1 9 hHeld ?_;simp only [putS]
  refine rd 2 (some 10) fun K hK=>?_
  clear hHeld
  go_simp
  refine(K2.out _).mono ?_
  rintro e w' ⟨rfl,hww⟩;replace hww:=hww.symm;subst hww
  go_wp2_with fail
  refine hK.out _ _ (HS1.out _ (Below.refl wb.heap.size wb).drew) (fun hHeld=>?_)
  clear hK K
  try simp only [putS]
  refine tka 3 11 hHeld ?_;simp only [putS]
  refine tka 4 12 hHeld ?_;simp only [putS]
  refine tka 5 13 hHeld ?_;simp only [putS]
  refine tka 6 14 hHeld ?_;simp only [putS]
  refine rd 7 (some 15) fun K hK=>?_
  clear hHeld
  go_simp
  refine(K3.out _).mono ?_
  rintro e w' ⟨rfl,hww⟩;replace hww:=hww.symm;subst hww
  go_wp2_with fail
  refine hK.out _ _ (HS1.out _ (Below.refl wb.heap.size wb).drew) (fun hHeld=>?_)
  clear hK K
  try simp only [putS]
  refine tka 8 16 hHeld ?_;simp only [putS]
  refine tka 9 17 hHeld ?_;simp only [putS]
  refine tka 10 18 hHeld ?_;simp only [putS]
  refine tka 11 19 hHeld ?_;simp only [putS]
  refine tka 12 20 hHeld ?_;simp only [putS]
  refine rd 13 (some 21) fun K hK=>?_
  clear hHeld
  go_simp
  refine(K4.out _).mono ?_
  rintro e w' ⟨rfl,hww⟩;replace hww:=hww.symm;subst hww
  go_wp2_with fail
  refine hK.out _ _ (HS1.out _ (Below.refl wb.heap.size wb).drew) (fun hHeld=>?_)
  clear hK K
  try simp only [putS]
  refine tka 14 22 hHeld ?_;simp only [putS]
  refine tka 15 23 hHeld ?_;simp only [putS]
  refine tka 16 24 hHeld ?_;simp only [putS]
  refine tka 17 25 hHeld ?_;simp only [putS]
  refine tka 18 26 hHeld ?_;simp only [putS]
  refine tka 19 27 hHeld ?_;simp only [putS]
  refine tka 20 28 hHeld ?_;simp only [putS]
  refine tka 21 29 hHeld ?_;simp only [putS]
  refine rd 22 (some 30) fun K hK=>?_
  clear hHeld
  go_simp
  refine(sFullMask_c _ q _ (RQ.out _ (HB0.out.trans (Below.mono (Below.refl wb.heap.size wb).drew HB0.out.size)))).mono ?_
  rintro e w1 ⟨rfl,hb1⟩
  have hC1:Below wb.heap.size wb w1:=Below.trans (Below.refl wb.heap.size wb).drew hb1
  go_wp2_with fail
  refine hK.out _ _ (HS1.out _ hC1) (fun hHeld=>?_)
  clear hK K
  try simp only [putS]
  refine tka 23 31 hHeld ?_;simp only [putS]
  refine tka 24 32 hHeld ?_;simp only [putS]
  refine tka 25 33 hHeld ?_;simp only [putS]
  refine tka 26 34 hHeld ?_;simp only [putS]
  refine tks 27 35 hHeld ?_;simp only [putS]
  refine tks 28 36 hHeld ?_;simp only [putS]
  refine tks 29 37 hHeld ?_;simp only [putS]
  refine tks 30 38 hHeld ?_;simp only [putS]
  refine tks 31 39 hHeld ?_;simp only [putS]
  refine tka 32 40 hHeld ?_;simp only [putS]
  refine wpAnyH_done (by kernel_rfl) ?_ _
  clear hHeld
  go_wp2
  go_ret
  exact⟨ret_bool (a:=false) HN.out.symm,HB0.out.trans (Below.mono hC1 HB0.out.size)⟩
 have lb:((nbBoxLow:Int) != fullMask q+1)=false:=by simp [hl]
 have HL1:=Lib.hid hl;clear hl
 cases hh5:inR (boxVol b.fBox) 1 400
 ·have C5:=Lib.hid hh5
  have K5:=Lib.hid (fun W=>l1In_v hh5 W)
  have HN:=Lib.hid (show validBouquet q b=false from vb_head (by simp [bqHead,C5.out]))
  clear hh5
  go_wp2
  refine hbg HS1.out (Below.refl _ _).drew (fun hHeld=>?_)
  refine tka 0 8 hHeld ?_;simp only [putS]
  refine tka 1 9 hHeld ?_;simp only [putS]
  refine rd 2 (some 10) fun K hK=>?_
  clear hHeld
  go_simp
  refine(K2.out _).mono ?_
  rintro e w' ⟨rfl,hww⟩;replace hww:=hww.symm;subst hww
  go_wp2_with fail
  refine hK.out _ _ (HS1.out _ (Below.refl wb.heap.size wb).drew) (fun hHeld=>?_)
  clear hK K
  try simp only [putS]
  refine tka 3 11 hHeld ?_;simp only [putS]
  refine tka 4 12 hHeld ?_;simp only [putS]
  refine tka 5 13 hHeld ?_;simp only [putS]
  refine tka 6 14 hHeld ?_;simp only [putS]
  refine rd 7 (some 15) fun K hK=>?_
  clear hHeld
  go_simp
  refine(K3.out _).mono ?_
  rintro e w' ⟨rfl,hww⟩;replace hww:=hww.symm;subst hww
  go_wp2_with fail
  refine hK.out _ _ (HS1.out _ (Below.refl wb.heap.size wb).drew) (fun hHeld=>?_)
  clear hK K
  try simp only [putS]
  refine tka 8 16 hHeld ?_;simp only [putS]
  refine tka 9 17 hHeld ?_;simp only [putS]
  refine tka 10 18 hHeld ?_;simp only [putS]
  refine tka 11 19 hHeld ?_;simp only [putS]
  refine tka 12 20 hHeld ?_;simp only [putS]
  refine rd 13 (some 21) fun K hK=>?_
  clear hHeld
  go_simp
  refine(K4.out _).mono ?_
  rintro e w' ⟨rfl,hww⟩;replace hww:=hww.symm;subst hww
  go_wp2_with fail
  refine hK.out _ _ (HS1.out _ (Below.refl wb.heap.size wb).drew) (fun hHeld=>?_)
  clear hK K
  try simp only [putS]
  refine tka 14 22 hHeld ?_;simp only [putS]
  refine tka 15 23 hHeld ?_;simp only [putS]
  refine tka 16 24 hHeld ?_;simp only [putS]
  refine tka 17 25 hHeld ?_;simp only [putS]
  refine tka 18 26 hHeld ?_;simp only [putS]
  refine tka 19 27 hHeld ?_;simp only [putS]
  refine tka 20 28 hHeld ?_;simp only [putS]
  refine tka 21 29 hHeld ?_;simp only [putS]
  refine rd 22 (some 30) fun K hK=>?_
  clear hHeld
  go_simp
  refine(sFullMask_c _ q _ (RQ.out _ (HB0.out.trans (Below.mono (Below.refl wb.heap.size wb).drew HB0.out.size)))).mono ?_
  rintro e w1 ⟨rfl,hb1⟩
  have hC1:Below wb.heap.size wb w1:=Below.trans (Below.refl wb.heap.size wb).drew hb1
  go_wp2_with fail
  refine hK.out _ _ (HS1.out _ hC1) (fun hHeld=>?_)
  clear hK K
  try simp only [putS]
  refine tka 23 31 hHeld ?_;simp only [putS]
  refine tka 24 32 hHeld ?_;simp only [putS]
  refine tka 25 33 hHeld ?_;simp only [putS]
  refine tka 26 34 hHeld ?_;simp only [putS]
  refine tka 27 35 hHeld ?_;simp only [putS]
  refine tka 28 36 hHeld ?_;simp only [putS]
  refine rd 29 (some 37) fun K hK=>?_
  clear hHeld
  go_simp
  refine(sBoxVolume_c _ b.fBox _ (RB.out _ (HB0.out.trans (Below.mono hC1 HB0.out.size)))).mono ?_
  rintro e w2 ⟨rfl,hb2⟩
  have hC2:Below wb.heap.size wb w2:=Below.trans hC1 (hb2.mono (Below.size hC1))
  go_wp2_with fail
  refine hK.out _ _ (HS1.out _ hC2) (fun hHeld=>?_)
  clear hK K
  try simp only [putS]
  refine rd 30 (some 38) fun K hK=>?_
  clear hHeld
  go_simp
  refine(K5.out _).mono ?_
  rintro e w' ⟨rfl,hww⟩;replace hww:=hww.symm;subst hww
  go_wp2_with fail
  refine hK.out _ _ (HS1.out _ hC2) (fun hHeld=>?_)
  clear hK K
  try simp only [putS]
  refine tka 31 39 hHeld ?_;simp only [putS]
  refine tka 32 40 hHeld ?_;simp only [putS]
  refine wpAnyH_done (by kernel_rfl) ?_ _
  clear hHeld
  go_wp2
  go_ret
  exact⟨ret_bool (a:=false) HN.out.symm,HB0.out.trans (Below.mono hC2 HB0.out.size)⟩
 have C5:=Lib.hid hh5
 have K5:=Lib.hid (fun W=>l1In_v hh5 W)
 clear hh5
 have HHD:=Lib.hid (show bqHead q b=true by unfold bqHead;rw [HLL.out,decide_eq_true HL1.out,C2.out,C3.out,C4.out,C5.out];rfl)
 go_wp2
 refine hbg HS1.out (Below.refl _ _).drew (fun hHeld=>?_)
 refine tka 0 8 hHeld ?_;simp only [putS]
 refine tka 1 9 hHeld ?_;simp only [putS]
 refine rd 2 (some 10) fun K hK=>?_
 clear hHeld
 go_simp
 refine(K2.out _).mono ?_
 rintro e w' ⟨rfl,hww⟩;replace hww:=hww.symm;subst hww
 go_wp2_with fail
 refine hK.out _ _ (HS1.out _ (Below.refl wb.heap.size wb).drew) (fun hHeld=>?_)
 clear hK K
 try simp only [putS]
 refine tka 3 11 hHeld ?_;simp only [putS]
 refine tka 4 12 hHeld ?_;simp only [putS]
 refine tka 5 13 hHeld ?_;simp only [putS]
 refine tka 6 14 hHeld ?_;simp only [putS]
 refine rd 7 (some 15) fun K hK=>?_
 clear hHeld
 go_simp
 refine(K3.out _).mono ?_
 rintro e w' ⟨rfl,hww⟩;replace hww:=hww.symm;subst hww
 go_wp2_with fail
 refine hK.out _ _ (HS1.out _ (Below.refl wb.heap.size wb).drew) (fun hHeld=>?_)
 clear hK K
 try simp only [putS]
 refine tka 8 16 hHeld ?_;simp only [putS]
 refine tka 9 17 hHeld ?_;simp only [putS]
 refine tka 10 18 hHeld ?_;simp only [putS]
 refine tka 11 19 hHeld ?_;simp only [putS]
 refine tka 12 20 hHeld ?_;simp only [putS]
 refine rd 13 (some 21) fun K hK=>?_
 clear hHeld
 go_simp
 refine(K4.out _).mono ?_
 rintro e w' ⟨rfl,hww⟩;replace hww:=hww.symm;subst hww
 go_wp2_with fail
 refine hK.out _ _ (HS1.out _ (Below.refl wb.heap.size wb).drew) (fun hHeld=>?_)
 clear hK K
 try simp only [putS]
 refine tka 14 22 hHeld ?_;simp only [putS]
 refine tka 15 23 hHeld ?_;simp only [putS]
 refine tka 16 24 hHeld ?_;simp only [putS]
 refine tka 17 25 hHeld ?_;simp only [putS]
 refine tka 18 26 hHeld ?_;simp only [putS]
 refine tka 19 27 hHeld ?_;simp only [putS]
 refine tka 20 28 hHeld ?_;simp only [putS]
 refine tka 21 29 hHeld ?_;simp only [putS]
 refine rd 22 (some 30) fun K hK=>?_
 clear hHeld
 go_simp
 refine(sFullMask_c _ q _ (RQ.out _ (HB0.out.trans (Below.mono (Below.refl wb.heap.size wb).drew HB0.out.size)))).mono ?_
 rintro e w1 ⟨rfl,hb1⟩
 have hC1:Below wb.heap.size wb w1:=Below.trans (Below.refl wb.heap.size wb).drew hb1
 go_wp2_with fail
 refine hK.out _ _ (HS1.out _ hC1) (fun hHeld=>?_)
 clear hK K
 try simp only [putS]
 refine tka 23 31 hHeld ?_;simp only [putS]
 refine tka 24 32 hHeld ?_;simp only [putS]
 refine tka 25 33 hHeld ?_;simp only [putS]
 refine tka 26 34 hHeld ?_;simp only [putS]
 refine tka 27 35 hHeld ?_;simp only [putS]
 refine tka 28 36 hHeld ?_;simp only [putS]
 refine rd 29 (some 37) fun K hK=>?_
 clear hHeld
 go_simp
 refine(sBoxVolume_c _ b.fBox _ (RB.out _ (HB0.out.trans (Below.mono hC1 HB0.out.size)))).mono ?_
 rintro e w2 ⟨rfl,hb2⟩
 have hC2:Below wb.heap.size wb w2:=Below.trans hC1 (hb2.mono (Below.size hC1))
 go_wp2_with fail
 refine hK.out _ _ (HS1.out _ hC2) (fun hHeld=>?_)
 clear hK K
 try simp only [putS]
 refine rd 30 (some 38) fun K hK=>?_
 clear hHeld
 go_simp
 refine(K5.out _).mono ?_
 rintro e w' ⟨rfl,hww⟩;replace hww:=hww.symm;subst hww
 go_wp2_with fail
 refine hK.out _ _ (HS1.out _ hC2) (fun hHeld=>?_)
 clear hK K
 try simp only [putS]
 refine tka 31 39 hHeld ?_;simp only [putS]
 refine tka 32 40 hHeld ?_;simp only [putS]
 refine wpAnyH_done (by kernel_rfl) ?_ _
 clear hHeld
 clear hb1 hb2 hC1 m1 lb HS1
 have hB1:=HB0.out.trans (hC2.mono HB0.out.size)
 replace bxq:=bxq.below hC2
 replace bxb:=bxb.below hC2
 clear hC2 hB
 have hr2:=(bqHead_parts HHD.out).1.1
 have hr8:=(bqHead_parts HHD.out).1.2
 have kb_5:=bxb 5 _ rfl
 have kb_7:=bxb 7 _ rfl
 by_cases z1:nbBudgets=0
 ·have zb:((nbBudgets:Int)==0)=true:=by simp [z1]
  have HN:=Lib.hid (vb_len (q:=q) (b:=b) (.inl (HLB.out.trans z1)))
  clear z1
  go_wp2
  go_ret
  exact⟨ret_bool (a:=false) HN.out.symm,hB1⟩
 have zb:((nbBudgets:Int)==0)=false:=by simp [z1]
 have Z1:=Lib.hid z1;clear z1
 by_cases z2:nbBudgets=nbContours
 rotate_left
 ·have yb:((nbBudgets:Int) != (nbContours:Int))=true:=by simp;omega
  have HN:=Lib.hid (vb_len (q:=q) (b:=b) (.inr (by rw [HLB.out,HLC.out];exact fun h=>z2 h.symm)))
  clear z2
  go_wp2
  go_ret
  exact⟨ret_bool (a:=false) HN.out.symm,hB1⟩
 have yb:((nbBudgets:Int) != (nbContours:Int))=false:=by simp [z2]
 have Z2:=Lib.hid z2;clear z2
 go_wp2
 clear kb_5 kb_7 zb yb
 go_loopw [5] (fun i wr=>∃ k:Nat,k<=nbPlans/\i=.int .i64 k/\(b.fPlans.take k).all (fun p=>planFull q p&&decide (¬ fullMask q=0))=true/\Below w2.heap.size w2 wr) (fun i _=>nbPlans - (intOf i).toNat)
 case atStart=>exact⟨0,Nat.zero_le _,rfl,rfl,Below.refl _ _⟩
 case round =>
  obtain⟨k,hk,rfl,hall,hE⟩:=hrel
  have HA:=Lib.hid hall;clear hall
  have hB2:=hB1.trans (hE.mono hB1.size)
  have kb_6:=(bxb.below hE) 6 _ rfl
  by_cases hlt:k<nbPlans
  ·obtain⟨bp,op,p,Ar,nr,cr,rfl,hc0,hRp,hp⟩:=hbPlans.planP hlt
   have HP:=Lib.hid hp.out;clear hp
   have HS1:Hid (∀ w',Below wr.heap.size wr w'->(w'.cell? ⟨w.heap.size,0,none⟩=some (.int .i64 q.fVariableCount)/\w'.cell? ⟨w.heap.size,1,none⟩=some (.slice AqAtoms nqAtoms cqAtoms)/\w'.cell? ⟨w.heap.size+1,6,none⟩=some (.slice (some ⟨bp,op,none⟩) nbPlans cbPlans)/\w'.cell? ⟨bp,op+k,none⟩=some (.slice Ar nr cr))):=by
    show ∀ w',_->_
    intro w' hc
    exact⟨((bxq.below hE).below hc) 0 _ rfl,((bxq.below hE).below hc) 1 _ rfl,((bxb.below hE).below hc) 6 _ rfl,cells_below (hB2.trans (hc.mono hB2.size)) _ _ hc0⟩
   have RP:Hid (∀ W,Below w.heap.size w W->(rPlan NB).rep W [.slice Ar nr cr] p):=by
    show ∀ W,_->_
    intro W hW
    exact rPlan_rep.2 ⟨Ar,nr,cr,rfl,hRp.below (rPlanStep_ok NB) hW⟩
   have HBp:=Lib.hid hB2
   clear hc0
   cases hpf:planFull q p
   ·have pb:(planMask q p != fullMask q)=true:=by unfold planFull at hpf;simpa using hpf
    have HN:=Lib.hid (vb_plan HP.out hpf)
    clear hpf
    go_wp2
    refine hbg HS1.out (Below.refl _ _).drew (fun hHeld=>?_)
    refine tka 0 61 hHeld ?_;simp only [putS]
    refine tka 1 62 hHeld ?_;simp only [putS]
    refine tka 2 63 hHeld ?_;simp only [putS]
    refine tka 3 64 hHeld ?_;simp only [putS]
    refine tka 4 65 hHeld ?_;simp only [putS]
    refine tka 5 66 hHeld ?_;simp only [putS]
    refine tka 7 68 hHeld ?_;simp only [putS]
    refine rd 6 (some 67) fun K hK=>?_
    clear hHeld
    go_simp
    refine(sPlanMask_c _ q _ p _ (RQ.out _ HBp.out.drew) (RP.out _ HBp.out.drew)).mono ?_
    rintro e v1 ⟨rfl,hd1⟩
    have hD1:Below wr.heap.size wr v1:=(Below.refl wr.heap.size wr).drew.trans hd1
    go_wp2_with fail
    refine hK.out _ _ (HS1.out _ hD1) (fun hHeld=>?_)
    clear hK K
    try simp only [putS]
    refine rd 8 (some 69) fun K hK=>?_
    clear hHeld
    go_simp
    refine(sFullMask_c _ q _ (RQ.out _ (HBp.out.trans (hD1.mono HBp.out.size)))).mono ?_
    rintro e v2 ⟨rfl,hd2⟩
    have hD2:Below wr.heap.size wr v2:=hD1.trans (hd2.mono hD1.size)
    go_wp2_with fail
    refine hK.out _ _ (HS1.out _ hD2) (fun hHeld=>?_)
    clear hK K
    try simp only [putS]
    refine tka 9 70 hHeld ?_;simp only [putS]
    refine tka 10 71 hHeld ?_;simp only [putS]
    refine tks 11 72 hHeld ?_;simp only [putS]
    refine tks 12 73 hHeld ?_;simp only [putS]
    refine tks 13 74 hHeld ?_;simp only [putS]
    refine tka 14 75 hHeld ?_;simp only [putS]
    refine wpAnyH_done (by kernel_rfl) ?_ _
    clear hHeld
    clear HS1 hd1 hd2 hD1
    go_wp2
    go_ret
    exact⟨ret_bool (a:=false) HN.out.symm,HBp.out.trans (hD2.mono HBp.out.size)⟩
   ·have pb:(planMask q p != fullMask q)=false:=by unfold planFull at hpf;simpa using hpf
    have HPF:=Lib.hid hpf;clear hpf
    by_cases hf:fullMask q=0
    ·have fb:(fullMask q==0)=true:=by simp [hf]
     have HN:=Lib.hid (vb_full (b:=b) hf)
     clear hf
     go_wp2
     refine hbg HS1.out (Below.refl _ _).drew (fun hHeld=>?_)
     refine tka 0 61 hHeld ?_;simp only [putS]
     refine tka 1 62 hHeld ?_;simp only [putS]
     refine tka 2 63 hHeld ?_;simp only [putS]
     refine tka 3 64 hHeld ?_;simp only [putS]
     refine tka 4 65 hHeld ?_;simp only [putS]
     refine tka 5 66 hHeld ?_;simp only [putS]
     refine tka 7 68 hHeld ?_;simp only [putS]
     refine rd 6 (some 67) fun K hK=>?_
     clear hHeld
     go_simp
     refine(sPlanMask_c _ q _ p _ (RQ.out _ HBp.out.drew) (RP.out _ HBp.out.drew)).mono ?_
     rintro e v1 ⟨rfl,hd1⟩
     have hD1:Below wr.heap.size wr v1:=(Below.refl wr.heap.size wr).drew.trans hd1
     go_wp2_with fail
     refine hK.out _ _ (HS1.out _ hD1) (fun hHeld=>?_)
     clear hK K
     try simp only [putS]
     refine rd 8 (some 69) fun K hK=>?_
     clear hHeld
     go_simp
     refine(sFullMask_c _ q _ (RQ.out _ (HBp.out.trans (hD1.mono HBp.out.size)))).mono ?_
     rintro e v2 ⟨rfl,hd2⟩
     have hD2:Below wr.heap.size wr v2:=hD1.trans (hd2.mono hD1.size)
     go_wp2_with fail
     refine hK.out _ _ (HS1.out _ hD2) (fun hHeld=>?_)
     clear hK K
     try simp only [putS]
     refine tka 9 70 hHeld ?_;simp only [putS]
     refine tka 10 71 hHeld ?_;simp only [putS]
     refine tka 11 72 hHeld ?_;simp only [putS]
     refine rd 12 (some 73) fun K hK=>?_
     clear hHeld
     go_simp
     refine(sFullMask_c _ q _ (RQ.out _ (HBp.out.trans (hD2.mono HBp.out.size)))).mono ?_
     rintro e v3 ⟨rfl,hd3⟩
     have hD3:Below wr.heap.size wr v3:=hD2.trans (hd3.mono hD2.size)
     go_wp2_with fail
     refine hK.out _ _ (HS1.out _ hD3) (fun hHeld=>?_)
     clear hK K
     try simp only [putS]
     refine tka 13 74 hHeld ?_;simp only [putS]
     refine tka 14 75 hHeld ?_;simp only [putS]
     refine wpAnyH_done (by kernel_rfl) ?_ _
     clear hHeld
     clear HS1 hd1 hd2 hd3 hD1 hD2
     go_wp2
     go_ret
     exact⟨ret_bool (a:=false) HN.out.symm,HBp.out.trans (hD3.mono HBp.out.size)⟩
    have fb:(fullMask q==0)=false:=by simp [hf]
    have HN:=Lib.hid (all_snoc' (p:=fun p=>planFull q p&&decide (¬ fullMask q=0)) HA.out HP.out (by rw [HPF.out,decide_eq_true hf];rfl))
    clear hf
    go_wp2
    refine hbg HS1.out (Below.refl _ _).drew (fun hHeld=>?_)
    refine tka 0 61 hHeld ?_;simp only [putS]
    refine tka 1 62 hHeld ?_;simp only [putS]
    refine tka 2 63 hHeld ?_;simp only [putS]
    refine tka 3 64 hHeld ?_;simp only [putS]
    refine tka 4 65 hHeld ?_;simp only [putS]
    refine tka 5 66 hHeld ?_;simp only [putS]
    refine tka 7 68 hHeld ?_;simp only [putS]
    refine rd 6 (some 67) fun K hK=>?_
    clear hHeld
    go_simp
    refine(sPlanMask_c _ q _ p _ (RQ.out _ HBp.out.drew) (RP.out _ HBp.out.drew)).mono ?_
    rintro e v1 ⟨rfl,hd1⟩
    have hD1:Below wr.heap.size wr v1:=(Below.refl wr.heap.size wr).drew.trans hd1
    go_wp2_with fail
    refine hK.out _ _ (HS1.out _ hD1) (fun hHeld=>?_)
    clear hK K
    try simp only [putS]
    refine rd 8 (some 69) fun K hK=>?_
    clear hHeld
    go_simp
    refine(sFullMask_c _ q _ (RQ.out _ (HBp.out.trans (hD1.mono HBp.out.size)))).mono ?_
    rintro e v2 ⟨rfl,hd2⟩
    have hD2:Below wr.heap.size wr v2:=hD1.trans (hd2.mono hD1.size)
    go_wp2_with fail
    refine hK.out _ _ (HS1.out _ hD2) (fun hHeld=>?_)
    clear hK K
    try simp only [putS]
    refine tka 9 70 hHeld ?_;simp only [putS]
    refine tka 10 71 hHeld ?_;simp only [putS]
    refine tka 11 72 hHeld ?_;simp only [putS]
    refine rd 12 (some 73) fun K hK=>?_
    clear hHeld
    go_simp
    refine(sFullMask_c _ q _ (RQ.out _ (HBp.out.trans (hD2.mono HBp.out.size)))).mono ?_
    rintro e v3 ⟨rfl,hd3⟩
    have hD3:Below wr.heap.size wr v3:=hD2.trans (hd3.mono hD2.size)
    go_wp2_with fail
    refine hK.out _ _ (HS1.out _ hD3) (fun hHeld=>?_)
    clear hK K
    try simp only [putS]
    refine tka 13 74 hHeld ?_;simp only [putS]
    refine tka 14 75 hHeld ?_;simp only [putS]
    refine wpAnyH_done (by kernel_rfl) ?_ _
    clear hHeld
    clear HS1 hd1 hd2 hd3 hD1 hD2
    go_wp2
    go_roundw
    case rel=>exact⟨k+1,by omega,by go_num,HN.out,hE.trans (hD3.mono hE.size)⟩
    case measure=>simp [intOf];omega
  ·have HPA:Hid (b.fPlans.all (fun p=>planFull q p&&decide (¬ fullMask q=0))=true):=by show _=_;have:=HA.out;rwa [take_all hbPlans.len hlt]at this
   obtain⟨w4,hw4⟩:∃ W:World,W=wr:=⟨_,rfl⟩
   rw [<- hw4]at hE hB2 kb_6 ⊢
   clear hw4
   have bxb4:=bxb.below hE
   go_wp2
   clear kb_6
   go_loopw [6] (fun i wr=>∃ k:Nat,k<=nbBudgets/\i=.int .i64 k/\(List.range k).all (budOk b.fRatio b.fBudgets)=true/\(b.fContours.take k).all (conOk (b.fPlans.length:Int))=true/\Below w4.heap.size w4 wr) (fun i _=>nbBudgets - (intOf i).toNat)
   case atStart=>exact⟨0,Nat.zero_le _,rfl,rfl,rfl,Below.refl _ _⟩
   case round =>
    clear hE
    obtain⟨k,hk,rfl,hall,hcon,hE⟩:=hrel
    have HA:=Lib.hid hall;clear hall
    have HCN:=Lib.hid hcon;clear hcon
    have hB3:=hB2.trans (hE.mono hB2.size)
    have kb_1:=(bxb4.below hE) 1 _ rfl
    have kb_5:=(bxb4.below hE) 5 _ rfl
    have kb_6:=(bxb4.below hE) 6 _ rfl
    have kb_7:=(bxb4.below hE) 7 _ rfl
    by_cases hlt:k<nbBudgets
    ·obtain⟨bB,oB,x,rfl,hcx,hI,hx⟩:=(hbBudgets.below rInt_ok hB3).ati hlt
     have Hx:=Lib.hid hx.out;clear hx
     have hkC:k<nbContours:=by have:=Z2.out;omega
     obtain⟨bR,oR,l,Ar,nr,cr,rfl,hcr,hRr,hl⟩:=(hbContours.below (rSlice_ok NB _ rInt_ok) hB3).row hkC
     have Hl:=Lib.hid hl.out;clear hl
     have HRL:=Lib.hid hRr.len
     have hnr:=hRr.bound
     have hkL:Hid (k<b.fBudgets.length):=by show _<_;rw [HLB.out];exact hlt
     cases c1:inR x 1 500000000000
     ·have K1:=Lib.hid (fun W=>l1In_v c1 W)
      have HN:=Lib.hid (vb_bud (q:=q) hkL.out (budOk_out (r:=b.fRatio) Hx.out c1))
      clear c1
      go_wp2
      go_quiet ((go_at_call 30;exact Calls.quiet_of_same (K1.out _)))
      go_wp2
      go_ret
      exact⟨ret_bool (a:=false) HN.out.symm,below_drewN hB3 _⟩
     have K1:=Lib.hid (fun W=>l1In_v c1 W)
     have C1:=Lib.hid c1;clear c1
     have HRN:Hid (nr=0->validBouquet q b=false):=by
      show nr=0->_
      exact fun h=>vb_con Hl.out (conOk_no (HRL.out.trans h))
     by_cases hk0:0<k
     ·have dq:decide ((0:Int)<(k:Int))=true:=by simp;omega
      have dq':decide (0<k)=true:=by simp;omega
      obtain⟨j,hj⟩:∃ j,j+1=k:=⟨k - 1,by omega⟩
      obtain⟨bB',oB',y,e2,hcy,hIy,hy⟩:=(hbBudgets.below rInt_ok hB3).ati (k:=j) (by omega)
      injection e2 with e2;injection e2 with e2 e3;subst e2;subst e3
      have Hy:=Lib.hid hy.out;clear hy
      have hyb:=budOk_at HA.out (j:=j) (by omega) Hy.out
      have hmul:=mul_bd hr2 hr8 hyb.1 hyb.2
      rw [Int.mul_comm]at hmul
      have HBN:=Lib.hid (budOk_next (r:=b.fRatio) Hx.out hj Hy.out C1.out)
      have mj:IntKind.i64.wrap ((k:Int) - 1)=(j:Int):=by rw [IntWalk.i64_in _ (by omega)];omega
      have hjn:j<nbBudgets:=by omega
      have mm:IntKind.i64.wrap (y*b.fRatio)=y*b.fRatio:=IntWalk.i64_in _ (by omega)
      clear hmul hj
      by_cases he:x=b.fRatio*y
      rotate_left
      ·have eb:(x != y*b.fRatio)=true:=by rw [Int.mul_comm];simp [he]
       have HN:=Lib.hid (vb_bud (q:=q) hkL.out (HBN.out.trans (decide_eq_false he)))
       clear he
       go_wp2
       go_quiet ((go_at_call 30;exact Calls.quiet_of_same (K1.out _)))
       clear mj mm
       go_wp2
       go_ret
       exact⟨ret_bool (a:=false) HN.out.symm,below_drewN hB3 _⟩
      have eb:(x != y*b.fRatio)=false:=by rw [Int.mul_comm];simp [he]
      have HBK:=Lib.hid (HBN.out.trans (decide_eq_true he))
      clear he
      by_cases hr0:nr=0
      ·have rb:((nr:Int)==0)=true:=by simp [hr0]
       have HN:=Lib.hid (HRN.out hr0)
       clear hr0
       go_wp2
       go_quiet ((go_at_call 30;exact Calls.quiet_of_same (K1.out _)))
       clear mj mm
       go_wp2
       go_ret
       exact⟨ret_bool (a:=false) HN.out.symm,below_drewN hB3 _⟩
      have rb:((nr:Int)==0)=false:=by simp [hr0]
      have HR0:=Lib.hid hr0;clear hr0
      go_wp2
      go_quiet ((go_at_call 30;exact Calls.quiet_of_same (K1.out _)))
      clear mj mm eb
      go_wp2
      clear kb_1 kb_5 kb_6 kb_7
      go_loopw [7] (fun i wr2=>∃ j:Nat,j<=nr/\i=.int .i64 j/\(List.range j).all (varOk (nbPlans:Int) l)=true/\Below w4.heap.size w4 wr2) (fun i _=>nr - (intOf i).toNat)
      case atStart=>exact⟨0,Nat.zero_le _,rfl,rfl,below_drewN hE _⟩
      case round =>
       clear hE hB3 hcx hcr hRr rb
       obtain⟨j,hj,rfl,hall,hE⟩:=hrel
       have HV:=Lib.hid hall;clear hall
       have hB3:=hB2.trans (hE.mono hB2.size)
       have kb_5:=(bxb4.below hE) 5 _ rfl
       have kb_6:=(bxb4.below hE) 6 _ rfl
       have kb_7:=(bxb4.below hE) 7 _ rfl
       obtain⟨bR',oR',l',Ar',nr',cr',e2,hcr,hRr,hl'⟩:=(hbContours.below (rSlice_ok NB _ rInt_ok) hB3).row hkC
       injection e2 with e2;injection e2 with e2 e3;subst e2;subst e3
       have e4:l'=l:=by have:=hl'.out;rw [Hl.out]at this;injection this with this;exact this.symm
       subst e4
       have e5:nr'=nr:=by rw [<- hRr.len];exact HRL.out
       subst e5
       clear hl'
       by_cases hlt2:j<nr'
       ·obtain⟨bv,ov,v,rfl,hcv,hIv,hv⟩:=hRr.ati hlt2
        have Hv:=Lib.hid hv.out;clear hv
        have hjl:Hid (j<l'.length):=by show _<_;rw [HRL.out];exact hlt2
        have hjc:j<=cr':=Nat.le_trans (Nat.le_of_lt hlt2) hRr.nc
        have hTk:=hRr.take (Nat.le_of_lt hlt2)
        have mp:IntKind.i64.wrap ((nbPlans:Int) - 1)=(nbPlans:Int) - 1:=IntWalk.i64_in _ (by omega)
        cases c1:inR v 0 ((nbPlans:Int) - 1)
        ·have K2:=Lib.hid (fun W=>l1In_v c1 W)
         have HN:=Lib.hid (vb_con (q:=q) Hl.out (by rw [HLP.out];exact conOk_bad hjl.out (varOk_out Hv.out c1)))
         clear c1
         go_wp2
         go_quiet ((go_at_call 30;exact Calls.quiet_of_same (K2.out _)))
         clear mp
         go_wp2
         go_ret
         exact⟨ret_bool (a:=false) HN.out.symm,below_drewN hB3 _⟩
        have K2:=Lib.hid (fun W=>l1In_v c1 W)
        cases c2:hasI (l'.take j) v
        rotate_left
        ·have HN:=Lib.hid (vb_con (q:=q) Hl.out (by rw [HLP.out];exact conOk_bad hjl.out (varOk_has Hv.out c2)))
         have K3:=Lib.hid c2
         clear c1 c2
         go_wp2
         go_quiet (first|(go_at_call 30;exact Calls.quiet_of_same (K2.out _))|(go_at_call 75;exact Calls.quiet_of_same (l7Has_v K3.out (hTk.drewN rInt_ok _))))
         clear mp
         go_wp2
         go_ret
         exact⟨ret_bool (a:=false) HN.out.symm,below_drewN hB3 _⟩
        have HVK:=Lib.hid (varOk_yes Hv.out c1 c2)
        have K3:=Lib.hid c2
        clear c1 c2
        go_wp2
        go_quiet (first|(go_at_call 30;exact Calls.quiet_of_same (K2.out _))|(go_at_call 75;exact Calls.quiet_of_same (l7Has_v K3.out (hTk.drewN rInt_ok _))))
        clear mp
        go_wp2
        go_roundw
        case rel=>exact⟨j+1,by omega,by go_num,rngAll_snoc HV.out HVK.out,below_drewN hE _⟩
        case measure=>simp [intOf];omega
       ·have HCK:Hid (conOk (b.fPlans.length:Int) l'=true):=by
         show _=_
         rw [HLP.out,conOk_end (by rw [HRL.out,show nr'=j by omega];exact HV.out),HRL.out]
         exact decide_eq_true (by have:=HR0.out;omega)
        go_wp2
        go_roundw
        case rel=>exact⟨k+1,by omega,by go_num,rngAll_snoc HA.out HBK.out,all_snoc' HCN.out Hl.out HCK.out,hE⟩
        case measure=>simp [intOf];omega
     ·have dq:decide ((0:Int)<(k:Int))=false:=by simp;omega
      have dq':decide (0<k)=false:=by simp;omega
      have HBK:Hid (budOk b.fRatio b.fBudgets k=true):=by
       obtain rfl:k=0:=by omega
       exact budOk_first Hx.out C1.out
      by_cases hr0:nr=0
      ·have rb:((nr:Int)==0)=true:=by simp [hr0]
       have HN:=Lib.hid (HRN.out hr0)
       clear hr0
       go_wp2
       go_quiet ((go_at_call 30;exact Calls.quiet_of_same (K1.out _)))
       go_wp2
       go_ret
       exact⟨ret_bool (a:=false) HN.out.symm,below_drewN hB3 _⟩
      have rb:((nr:Int)==0)=false:=by simp [hr0]
      have HR0:=Lib.hid hr0;clear hr0
      go_wp2
      go_quiet ((go_at_call 30;exact Calls.quiet_of_same (K1.out _)))
      go_wp2
      clear kb_1 kb_5 kb_6 kb_7
      go_loopw [7] (fun i wr2=>∃ j:Nat,j<=nr/\i=.int .i64 j/\(List.range j).all (varOk (nbPlans:Int) l)=true/\Below w4.heap.size w4 wr2) (fun i _=>nr - (intOf i).toNat)
      case atStart=>exact⟨0,Nat.zero_le _,rfl,rfl,below_drewN hE _⟩
      case round =>
       clear hE hB3 hcx hcr hRr rb
       obtain⟨j,hj,rfl,hall,hE⟩:=hrel
       have HV:=Lib.hid hall;clear hall
       have hB3:=hB2.trans (hE.mono hB2.size)
       have kb_5:=(bxb4.below hE) 5 _ rfl
       have kb_6:=(bxb4.below hE) 6 _ rfl
       have kb_7:=(bxb4.below hE) 7 _ rfl
       obtain⟨bR',oR',l',Ar',nr',cr',e2,hcr,hRr,hl'⟩:=(hbContours.below (rSlice_ok NB _ rInt_ok) hB3).row hkC
       injection e2 with e2;injection e2 with e2 e3;subst e2;subst e3
       have e4:l'=l:=by have:=hl'.out;rw [Hl.out]at this;injection this with this;exact this.symm
       subst e4
       have e5:nr'=nr:=by rw [<- hRr.len];exact HRL.out
       subst e5
       clear hl'
       by_cases hlt2:j<nr'
       ·obtain⟨bv,ov,v,rfl,hcv,hIv,hv⟩:=hRr.ati hlt2
        have Hv:=Lib.hid hv.out;clear hv
        have hjl:Hid (j<l'.length):=by show _<_;rw [HRL.out];exact hlt2
        have hjc:j<=cr':=Nat.le_trans (Nat.le_of_lt hlt2) hRr.nc
        have hTk:=hRr.take (Nat.le_of_lt hlt2)
        have mp:IntKind.i64.wrap ((nbPlans:Int) - 1)=(nbPlans:Int) - 1:=IntWalk.i64_in _ (by omega)
        cases c1:inR v 0 ((nbPlans:Int) - 1)
        ·have K2:=Lib.hid (fun W=>l1In_v c1 W)
         have HN:=Lib.hid (vb_con (q:=q) Hl.out (by rw [HLP.out];exact conOk_bad hjl.out (varOk_out Hv.out c1)))
         clear c1
         go_wp2
         go_quiet ((go_at_call 30;exact Calls.quiet_of_same (K2.out _)))
         clear mp
         go_wp2
         go_ret
         exact⟨ret_bool (a:=false) HN.out.symm,below_drewN hB3 _⟩
        have K2:=Lib.hid (fun W=>l1In_v c1 W)
        cases c2:hasI (l'.take j) v
        rotate_left
        ·have HN:=Lib.hid (vb_con (q:=q) Hl.out (by rw [HLP.out];exact conOk_bad hjl.out (varOk_has Hv.out c2)))
         have K3:=Lib.hid c2
         clear c1 c2
         go_wp2
         go_quiet (first|(go_at_call 30;exact Calls.quiet_of_same (K2.out _))|(go_at_call 75;exact Calls.quiet_of_same (l7Has_v K3.out (hTk.drewN rInt_ok _))))
         clear mp
         go_wp2
         go_ret
         exact⟨ret_bool (a:=false) HN.out.symm,below_drewN hB3 _⟩
        have HVK:=Lib.hid (varOk_yes Hv.out c1 c2)
        have K3:=Lib.hid c2
        clear c1 c2
        go_wp2
        go_quiet (first|(go_at_call 30;exact Calls.quiet_of_same (K2.out _))|(go_at_call 75;exact Calls.quiet_of_same (l7Has_v K3.out (hTk.drewN rInt_ok _))))
        clear mp
        go_wp2
        go_roundw
        case rel=>exact⟨j+1,by omega,by go_num,rngAll_snoc HV.out HVK.out,below_drewN hE _⟩
        case measure=>simp [intOf];omega
       ·have HCK:Hid (conOk (b.fPlans.length:Int) l'=true):=by
         show _=_
         rw [HLP.out,conOk_end (by rw [HRL.out,show nr'=j by omega];exact HV.out),HRL.out]
         exact decide_eq_true (by have:=HR0.out;omega)
        go_wp2
        go_roundw
        case rel=>exact⟨k+1,by omega,by go_num,rngAll_snoc HA.out HBK.out,all_snoc' HCN.out Hl.out HCK.out,hE⟩
        case measure=>simp [intOf];omega
    ·have HN:=Lib.hid (vb_ref HHD.out (by rw [HLB.out];have:=Z1.out;omega) (by rw [HLB.out,HLC.out];exact Z2.out.symm) HPA.out (by rw [HLB.out,show nbBudgets=k by omega];exact HA.out) (by have:=HCN.out;rwa [List.take_of_length_le (by rw [HLC.out];have:=Z2.out;omega)]at this))
     go_wp2
     go_ret
     exact⟨ret_bool (a:=true) HN.out.symm,hB3⟩
end Go.Proofs.YtcfmidbioecdcaaGreat
