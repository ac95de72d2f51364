/-
  Copy
-/
import Derived.Test.YtnlcfkpcmfljeaaGreatTypes
import Derived.Test.YtnlcfkpcmfljeaaGreatKeep
import Derived.Deep.RegionHeld3
import Derived.Deep.DrawnRows
namespace Go.Proofs.YtnlcfkpcmfljeaaGreat
open Go.RowKit
set_option linter.unusedVariables false
attribute [local go_sem ↓] Go.wp_at_zero Go.wp_at_succ

set_option maxRecDepth 100000 in
set_option maxHeartbeats 1600000 in
theorem iCopyInts_c (Al:Option Addr) (nl cl:Nat) (l:List Int) (w:World) (hl:RS NB rInt w Al nl cl l) :
  Calls Tryz.prog 140 #[.slice Al nl cl] w (RetS 3 rInt l w):=by
 have hn:=hl.bound
 go_enter Tryz.func140,Tryz.ntmps140
 go_wp2_with (at_builtin;refine wpList_appe (r:=rInt) (M:=NB) rfl _ _ 30 rfl _ 8 eiInt rInt_ok rInt_flat rfl (heap_alloc_new _ _) rfl (hl.below rInt_ok ((Below.refl _ _).alloc (Nat.le_refl _) _)) hl.nb (Nat.le_refl _) (by omega) ?_;intro A1 c1 w1 o1 g1 hb1)
 have hB:Below w.heap.size w w1:=((Below.refl _ _).alloc (Nat.le_refl _) _).trans (hb1.mono (by simp))
 go_ret
 exact⟨_,_,_,rfl,⟨_,o1,by cases A1<;>simp [blk],fun k hk=>by have:=g1 k hk;simp at this;omega⟩,hB⟩

theorem box_fin {s:Nat}{w2 w3:World}{A1 A2:Option Addr}{n1 n2 c1 c2:Nat}{l1 l2:List Int}(o1:OS NB 3 rInt w2 (blk A1) A1 n1 c1 l1) (o2:OS NB 3 rInt w2 (blk A2) A2 n2 c2 l2)
  (d:∀ k∈blk A1,k∉blk A2) (g1:∀ k∈blk A1,s<=k) (g2:∀ k∈blk A2,s<=k) (ho:Out s w2 w3):(rBox NB).own w3 (blk A1++blk A2) [.slice A1 n1 c1,.slice A2 n2 c2] ⟨l1,l2⟩/\Fr s (blk A1++blk A2):=by
 have f1:Fr s (blk A1):=⟨by cases A1<;>simp [blk],g1⟩
 have f2:Fr s (blk A2):=⟨by cases A2<;>simp [blk],g2⟩
 refine⟨rBox_own.2 ⟨A1,n1,c1,A2,n2,c2,_,_,rfl,rfl,o1.out rInt_ok f1 ho,o2.out rInt_ok f2 ho⟩,⟨List.nodup_append.2 ⟨f1.nd,f2.nd,fun a ha b hb e=>d a ha (e▸hb)⟩,fun k hk=>?_⟩⟩
 rcases List.mem_append.1 hk with hk|hk
 ·exact g1 k hk
 ·exact g2 k hk
theorem MS.blkI {B:Nat}{w:World}{A:Option Addr}{n cap:Nat}{l:List Int}(h:MS B NB 3 rInt w A n cap l):OS NB 3 rInt w (blk A) A n cap l/\∀ k∈blk A,B<=k:=by
 obtain⟨fp,h1,h2⟩:=h
 have:=(osInt.1 h1).1
 subst this
 exact⟨h1,h2.ge⟩

set_option maxRecDepth 100000 in
set_option maxHeartbeats 1600000 in
theorem iCopyBox_c (csx:List Value) (x:BoxD) (w:World) (hx:(rBox NB).rep w csx x) :
  Calls Tryz.prog 65 #[.agg csx.toArray] w (RetV (rBox NB) x w):=by
 have rx:=hx
 obtain⟨AxLow,nxLow,cxLow,AxHigh,nxHigh,cxHigh,rfl,hxLow,hxHigh⟩:=rBox_rep.1 hx
 clear hx
 have hB:Below w.heap.size w w:=Below.refl _ _
 have hAx:=(Below.refl (World.heap (w)).size (w)).alloc (Nat.le_refl _) (.cells #[.slice AxLow nxLow cxLow,.slice AxHigh nxHigh cxHigh] 36)
 replace hB:=hB.trans (hAx.mono hB.size)
 have bxx:=Bx.new (w) [.slice AxLow nxLow cxLow,.slice AxHigh nxHigh cxHigh] 36
 clear hAx
 obtain⟨wa,hwa⟩:∃ wa,wa=w.alloc (.cells #[.slice AxLow nxLow cxLow,.slice AxHigh nxHigh cxHigh] 36):=⟨_,rfl⟩
 rw [<- hwa]at hB bxx
 have hsa:wa.heap.size=w.heap.size+1:=by rw [hwa];simp
 have bkR:=Bk.new wa [.slice none 0 0,.slice none 0 0] 36
 have hBA:=(Below.refl wa.heap.size wa).alloc (Nat.le_refl _) (.cells #[.slice none 0 0,.slice none 0 0] 36)
 replace hB:=hB.trans (hBA.mono hB.size)
 replace bxx:=bxx.below hBA
 obtain⟨wb,hwb⟩:∃ wb,wb=wa.alloc (.cells #[.slice none 0 0,.slice none 0 0] 36):=⟨_,rfl⟩
 have hwb':=hwb
 replace hwb':=hwb'.symm
 replace bkR:Bk wb wa.heap.size 36 [.slice none 0 0,.slice none 0 0]:=by rw [hwb];exact bkR
 rw [hwb']at hB bxx
 have hsb:wb.heap.size=w.heap.size+1+1:=by rw [hwb];simp [hsa]
 rw [hsa]at bkR
 clear hBA
 go_enter Tryz.func65,Tryz.ntmps65
 go_wp2_with fail
 rw [<- hwa,hwb']
 clear hwa hwb hwb'
 have SS:∀ w',Below (w.heap.size+1) wb w'->w'.cell? ⟨w.heap.size,0,none⟩=some (.slice AxLow nxLow cxLow)/\w'.cell? ⟨w.heap.size,1,none⟩=some (.slice AxHigh nxHigh cxHigh):=fun w' hb=>⟨(hb.cell (by simp)).trans (bxx 0 _ rfl),(hb.cell (by simp)).trans (bxx 1 _ rfl)⟩
 have HSS:=Lib.hid SS;clear SS
 have tok1:True:=trivial
 have tok2:True:=trivial
 go_region_held3 (fun w'=>w'.cell? ⟨w.heap.size,0,none⟩=some (.slice AxLow nxLow cxLow)/\w'.cell? ⟨w.heap.size,1,none⟩=some (.slice AxHigh nxHigh cxHigh)) (first|exact HSS.out _ (Below.refl _ _).drew|exact HSS.out _ (hC1.mono (by omega))|exact HSS.out _ (hC2.mono (by omega))|exact HSS.out _ (((hC2.mono (by omega)).setCell (by simp) _).setCell (by simp) _)) (first|(go_at_call 140;have _t:=tok1;refine(iCopyInts_c _ _ _ _ _ (hxLow.below rInt_ok hB.drew)).mono ?_;rintro e w1 ⟨A1,n1,c1,rfl,M1,hb1⟩;have hC1:Below wb.heap.size wb w1:=Below.trans (Below.refl wb.heap.size wb).drew hb1;clear tok1)|(go_at_call 140;have _t:=tok2;refine(iCopyInts_c _ _ _ _ _ (hxHigh.below rInt_ok (hB.trans (hC1.mono hB.size)))).mono ?_;rintro e w2 ⟨A2,n2,c2,rfl,M2,hb2⟩;have hC2:Below wb.heap.size wb w2:=Below.trans hC1 (hb2.mono hC1.size);have bk2:=bkR.below hC2;have f0:=bk2.frozen 0;have f1:=bk2.frozen 1;have r0:=bk2.bx 0 _ rfl;have r1:=bk2.bx 1 _ rfl;have hlt:=bk2.lt;clear tok2))
 go_wp2
 have bk3:=(bk2.set 0 (.slice A1 n1 c1)).set 1 (.slice A2 n2 c2)
 have q0:=bk3.bx 0 _ rfl
 have q1:=bk3.bx 1 _ rfl
 have hs1:=hC1.size
 refine bodyPost_ret (v:=.agg #[.slice A1 n1 c1,.slice A2 n2 c2]) (by simp [results,Tryz.results65,go_sem,q0,q1]) rfl ?_
 obtain⟨o1,g1⟩:=M1.blkI
 obtain⟨o2,g2⟩:=M2.blkI
 have l1:=o1.lt rInt_ok
 have hf:=box_fin (s:=w.heap.size+1+1) (o1.belowS rInt_ok hb2) o2 (fun k h1 h2=>by have:=l1 k h1;have:=g2 k h2;omega) (fun k hk=>by have:=g1 k hk;simp at this;omega) (fun k hk=>by have:=g2 k hk;omega) (w3:=(w2.setCell ⟨w.heap.size+1,0,none⟩ (.slice A1 n1 c1)).setCell ⟨w.heap.size+1,1,none⟩ (.slice A2 n2 c2)) ((((Out.refl _ _).setCell (by simp) _).setCell (by simp) _))
 exact⟨_,_,rfl,hf.1,hf.2.mono (by omega),((hB.trans (hC2.mono hB.size)).setCell (by simp) _).setCell (by simp) _⟩
set_option maxRecDepth 100000 in
set_option maxHeartbeats 1600000 in
theorem sCopyBox_c (csx:List Value) (x:BoxD) (w:World) (hx:(rBox NB).rep w csx x) :
  Calls Tryz.prog 52 #[.agg csx.toArray] w (RetV (rBox NB) x w):=by
 have rx:=hx
 obtain⟨AxLow,nxLow,cxLow,AxHigh,nxHigh,cxHigh,rfl,hxLow,hxHigh⟩:=rBox_rep.1 hx
 clear hx
 have hB:Below w.heap.size w w:=Below.refl _ _
 have hAx:=(Below.refl (World.heap (w)).size (w)).alloc (Nat.le_refl _) (.cells #[.slice AxLow nxLow cxLow,.slice AxHigh nxHigh cxHigh] 36)
 replace hB:=hB.trans (hAx.mono hB.size)
 have bxx:=Bx.new (w) [.slice AxLow nxLow cxLow,.slice AxHigh nxHigh cxHigh] 36
 clear hAx
 obtain⟨wa,hwa⟩:∃ wa,wa=w.alloc (.cells #[.slice AxLow nxLow cxLow,.slice AxHigh nxHigh cxHigh] 36):=⟨_,rfl⟩
 rw [<- hwa]at hB bxx
 have hsa:wa.heap.size=w.heap.size+1:=by rw [hwa];simp
 have bkR:=Bk.new wa [.slice none 0 0,.slice none 0 0] 36
 have hBA:=(Below.refl wa.heap.size wa).alloc (Nat.le_refl _) (.cells #[.slice none 0 0,.slice none 0 0] 36)
 replace hB:=hB.trans (hBA.mono hB.size)
 replace bxx:=bxx.below hBA
 obtain⟨wb,hwb⟩:∃ wb,wb=wa.alloc (.cells #[.slice none 0 0,.slice none 0 0] 36):=⟨_,rfl⟩
 have hwb':=hwb
 replace hwb':=hwb'.symm
 replace bkR:Bk wb wa.heap.size 36 [.slice none 0 0,.slice none 0 0]:=by rw [hwb];exact bkR
 rw [hwb']at hB bxx
 have hsb:wb.heap.size=w.heap.size+1+1:=by rw [hwb];simp [hsa]
 rw [hsa]at bkR
 clear hBA
 go_enter Tryz.func52,Tryz.ntmps52
 go_wp2_with fail
 rw [<- hwa,hwb']
 clear hwa hwb hwb'
 have SS:∀ w',Below (w.heap.size+1) wb w'->w'.cell? ⟨w.heap.size,0,none⟩=some (.slice AxLow nxLow cxLow)/\w'.cell? ⟨w.heap.size,1,none⟩=some (.slice AxHigh nxHigh cxHigh):=fun w' hb=>⟨(hb.cell (by simp)).trans (bxx 0 _ rfl),(hb.cell (by simp)).trans (bxx 1 _ rfl)⟩
 have HSS:=Lib.hid SS;clear SS
 have hnL:=hxLow.bound
 have hnH:=hxHigh.bound
 have h1:w.heap.size+1<=wb.heap.size:=by omega
 have hz0:∀ o,wb.heap.size<=(wb.alloc o).heap.size:=fun o=>by simp
 have hzz:∀ (v:World) (o:Obj),v.heap.size<=(v.alloc o).heap.size:=fun v o=>by simp
 have ba:=fun o=>((Below.refl wb.heap.size wb).alloc (Nat.le_refl _) o).drew
 have bb:=fun o o'=>(((Below.refl wb.heap.size wb).alloc (Nat.le_refl _) o).alloc (hz0 o) o').drew
 have bw:=fun o=>hB.trans ((ba o).mono hB.size)
 have bw2:=fun o o'=>hB.trans ((bb o o').mono hB.size)
 have hA0:∀ o,(wb.alloc o).heap[w.heap.size+1+1]?=some o:=fun o=>by rw [<- hsb];exact heap_alloc_new _ _
 have hA1:∀ o o',((wb.alloc o).alloc o').heap[w.heap.size+1+1]?=some o:=fun o o'=>(Below.heap_alloc _ _ _ (by simp [hsb])).trans (hA0 o)
 have hA2:∀ o o',((wb.alloc o).alloc o').heap[w.heap.size+1+1+1]?=some o':=fun o o'=>by rw [<- hsb,show wb.heap.size+1=(wb.alloc o).heap.size from by simp];exact heap_alloc_new _ _
 have hL1:∀ o o',w.heap.size+1+1<((wb.alloc o).alloc o').heap.size:=fun o o'=>by simp [hsb]
 have hL2:∀ o o',w.heap.size+1+1+1<((wb.alloc o).alloc o').heap.size:=fun o o'=>by simp [hsb]
 have HA0:=Lib.hid hA0;have HA1:=Lib.hid hA1;have HA2:=Lib.hid hA2;have HL1:=Lib.hid hL1;have HL2:=Lib.hid hL2
 clear hA0 hA1 hA2 hL1 hL2
 have BA:=Lib.hid ba;have BB:=Lib.hid bb;have BW:=Lib.hid bw;have BW2:=Lib.hid bw2;have HZ0:=Lib.hid hz0;have HZZ:=Lib.hid hzz
 clear ba bb bw bw2 hz0 hzz
 go_region_held3 (fun w'=>w'.cell? ⟨w.heap.size,0,none⟩=some (.slice AxLow nxLow cxLow)/\w'.cell? ⟨w.heap.size,1,none⟩=some (.slice AxHigh nxHigh cxHigh)) (first|exact HSS.out _ ((Below.refl wb.heap.size wb).drew.mono h1)|exact HSS.out _ ((BA.out (.cells #[] 3)).mono h1)|exact HSS.out _ ((BB.out (.cells #[] 3) (.cells #[] 3)).mono h1)|exact HSS.out _ (hC1.mono h1)|exact HSS.out _ ((hC1.alloc hC1.size (.cells #[] 3)).mono h1)|exact HSS.out _ (hC2.mono h1)|exact HSS.out _ (((hC2.mono h1).setCell (Nat.le_refl _) _).setCell (Nat.le_refl _) _)) (first|(refine step_appe (r:=rInt) (e:=3) (M:=NB) (g:=w.heap.size+1+1) ?_ (Operand.tmp 3) (Operand.tmp 5) 30 ?_ (Value.int IntKind.i64 0) 8 ?_ rInt_ok rInt_flat ?_ ?_ (A2:=AxLow) (n2:=nxLow) (cap2:=cxLow) (l2:=x.fLow) (M2:=NB) ?_ ?_ hxLow.nb (Nat.le_refl _) ?_ ?_;rfl;rfl;exact eiInt;rfl;(first|exact HA0.out (.cells #[] 3)|exact HA1.out (.cells #[] 3) (.cells #[] 3)|exact HA2.out (.cells #[] 3) (.cells #[] 3));rfl;(first|exact hxLow.below rInt_ok (BW.out (.cells #[] 3))|exact hxLow.below rInt_ok (BW2.out (.cells #[] 3) (.cells #[] 3)));omega;intro A1 c1 w1 o1 g1 hb1;have hC1:Below wb.heap.size wb w1:=(by first|exact(BA.out (.cells #[] 3)).trans (hb1.mono (HZ0.out (.cells #[] 3)))|exact(BB.out (.cells #[] 3) (.cells #[] 3)).trans (hb1.mono (Nat.le_trans (HZ0.out (.cells #[] 3)) (HZZ.out (wb.alloc (.cells #[] 3)) (.cells #[] 3)))));have hBL:=hB.trans (hC1.mono hB.size))|(refine step_appe (r:=rInt) (e:=3) (M:=NB) (g:=w.heap.size+1+1+1) ?_ (Operand.tmp 3) (Operand.tmp 5) 30 ?_ (Value.int IntKind.i64 0) 8 ?_ rInt_ok rInt_flat ?_ ?_ (A2:=AxLow) (n2:=nxLow) (cap2:=cxLow) (l2:=x.fLow) (M2:=NB) ?_ ?_ hxLow.nb (Nat.le_refl _) ?_ ?_;rfl;rfl;exact eiInt;rfl;(first|exact HA0.out (.cells #[] 3)|exact HA1.out (.cells #[] 3) (.cells #[] 3)|exact HA2.out (.cells #[] 3) (.cells #[] 3));rfl;(first|exact hxLow.below rInt_ok (BW.out (.cells #[] 3))|exact hxLow.below rInt_ok (BW2.out (.cells #[] 3) (.cells #[] 3)));omega;intro A1 c1 w1 o1 g1 hb1;have hC1:Below wb.heap.size wb w1:=(by first|exact(BA.out (.cells #[] 3)).trans (hb1.mono (HZ0.out (.cells #[] 3)))|exact(BB.out (.cells #[] 3) (.cells #[] 3)).trans (hb1.mono (Nat.le_trans (HZ0.out (.cells #[] 3)) (HZZ.out (wb.alloc (.cells #[] 3)) (.cells #[] 3)))));have hBL:=hB.trans (hC1.mono hB.size))|(have _t:=hb1;refine step_appe (r:=rInt) (e:=3) (M:=NB) (g:=w.heap.size+1+1) ?_ (Operand.tmp 7) (Operand.tmp 9) 30 ?_ (Value.int IntKind.i64 0) 8 ?_ rInt_ok rInt_flat ?_ ?_ (A2:=AxHigh) (n2:=nxHigh) (cap2:=cxHigh) (l2:=x.fHigh) (M2:=NB) ?_ ?_ hxHigh.nb (Nat.le_refl _) ?_ ?_;rfl;rfl;exact eiInt;rfl;(first|exact heap_alloc_new w1 (.cells #[] 3)|exact(hb1.block _ (HL1.out (.cells #[] 3) (.cells #[] 3))).trans (HA1.out (.cells #[] 3) (.cells #[] 3))|exact(hb1.block _ (HL2.out (.cells #[] 3) (.cells #[] 3))).trans (HA2.out (.cells #[] 3) (.cells #[] 3)));rfl;(first|exact hxHigh.below rInt_ok hBL|exact hxHigh.below rInt_ok (hBL.alloc hBL.size (.cells #[] 3)));omega;intro A2 c2 w2 o2 g2 hb2;have hD2:Below w1.heap.size w1 w2:=(by first|exact hb2|exact((Below.refl w1.heap.size w1).alloc (Nat.le_refl _) (.cells #[] 3)).trans (hb2.mono (HZZ.out w1 (.cells #[] 3))));have hC2:Below wb.heap.size wb w2:=hC1.trans (hD2.mono hC1.size);have bk2:=bkR.below hC2;have f0:=bk2.frozen 0;have f1:=bk2.frozen 1;have r0:=bk2.bx 0 _ rfl;have r1:=bk2.bx 1 _ rfl;have hlt:=bk2.lt)|(have _t:=hb1;refine step_appe (r:=rInt) (e:=3) (M:=NB) (g:=w.heap.size+1+1+1) ?_ (Operand.tmp 7) (Operand.tmp 9) 30 ?_ (Value.int IntKind.i64 0) 8 ?_ rInt_ok rInt_flat ?_ ?_ (A2:=AxHigh) (n2:=nxHigh) (cap2:=cxHigh) (l2:=x.fHigh) (M2:=NB) ?_ ?_ hxHigh.nb (Nat.le_refl _) ?_ ?_;rfl;rfl;exact eiInt;rfl;(first|exact heap_alloc_new w1 (.cells #[] 3)|exact(hb1.block _ (HL1.out (.cells #[] 3) (.cells #[] 3))).trans (HA1.out (.cells #[] 3) (.cells #[] 3))|exact(hb1.block _ (HL2.out (.cells #[] 3) (.cells #[] 3))).trans (HA2.out (.cells #[] 3) (.cells #[] 3)));rfl;(first|exact hxHigh.below rInt_ok hBL|exact hxHigh.below rInt_ok (hBL.alloc hBL.size (.cells #[] 3)));omega;intro A2 c2 w2 o2 g2 hb2;have hD2:Below w1.heap.size w1 w2:=(by first|exact hb2|exact((Below.refl w1.heap.size w1).alloc (Nat.le_refl _) (.cells #[] 3)).trans (hb2.mono (HZZ.out w1 (.cells #[] 3))));have hC2:Below wb.heap.size wb w2:=hC1.trans (hD2.mono hC1.size);have bk2:=bkR.below hC2;have f0:=bk2.frozen 0;have f1:=bk2.frozen 1;have r0:=bk2.bx 0 _ rfl;have r1:=bk2.bx 1 _ rfl;have hlt:=bk2.lt)|(have _t:=hb1;refine step_appe (r:=rInt) (e:=3) (M:=NB) (g:=w1.heap.size) ?_ (Operand.tmp 7) (Operand.tmp 9) 30 ?_ (Value.int IntKind.i64 0) 8 ?_ rInt_ok rInt_flat ?_ ?_ (A2:=AxHigh) (n2:=nxHigh) (cap2:=cxHigh) (l2:=x.fHigh) (M2:=NB) ?_ ?_ hxHigh.nb (Nat.le_refl _) ?_ ?_;rfl;rfl;exact eiInt;rfl;(first|exact heap_alloc_new w1 (.cells #[] 3)|exact(hb1.block _ (HL1.out (.cells #[] 3) (.cells #[] 3))).trans (HA1.out (.cells #[] 3) (.cells #[] 3))|exact(hb1.block _ (HL2.out (.cells #[] 3) (.cells #[] 3))).trans (HA2.out (.cells #[] 3) (.cells #[] 3)));rfl;(first|exact hxHigh.below rInt_ok hBL|exact hxHigh.below rInt_ok (hBL.alloc hBL.size (.cells #[] 3)));omega;intro A2 c2 w2 o2 g2 hb2;have hD2:Below w1.heap.size w1 w2:=(by first|exact hb2|exact((Below.refl w1.heap.size w1).alloc (Nat.le_refl _) (.cells #[] 3)).trans (hb2.mono (HZZ.out w1 (.cells #[] 3))));have hC2:Below wb.heap.size wb w2:=hC1.trans (hD2.mono hC1.size);have bk2:=bkR.below hC2;have f0:=bk2.frozen 0;have f1:=bk2.frozen 1;have r0:=bk2.bx 0 _ rfl;have r1:=bk2.bx 1 _ rfl;have hlt:=bk2.lt))
 all_goals
  go_wp2
  have bk3:=(bk2.set 0 (.slice A1 nxLow c1)).set 1 (.slice A2 nxHigh c2)
  have q0:=bk3.bx 0 _ rfl
  have q1:=bk3.bx 1 _ rfl
  have hs1:=hC1.size
  refine bodyPost_ret (v:=.agg #[.slice A1 nxLow c1,.slice A2 nxHigh c2]) (by simp [results,Tryz.results52,go_sem,q0,q1]) rfl ?_
  have l1:=o1.lt rInt_ok
  simp [hsb]at g1 g2
  have hf:=box_fin (s:=w.heap.size+1+1) (o1.belowS rInt_ok hD2) o2 (fun k h1 h2=>by have:=l1 k h1;have:=g1 k h1;have:=g2 k h2;omega) (fun k hk=>by have:=g1 k hk;omega) (fun k hk=>by have:=g2 k hk;omega) (w3:=(w2.setCell ⟨w.heap.size+1,0,none⟩ (.slice A1 nxLow c1)).setCell ⟨w.heap.size+1,1,none⟩ (.slice A2 nxHigh c2)) ((((Out.refl _ _).setCell (by simp) _).setCell (by simp) _))
  exact⟨_,_,rfl,hf.1,hf.2.mono (by omega),((hB.trans (hC2.mono hB.size)).setCell (by simp) _).setCell (by simp) _⟩
end Go.Proofs.YtnlcfkpcmfljeaaGreat
