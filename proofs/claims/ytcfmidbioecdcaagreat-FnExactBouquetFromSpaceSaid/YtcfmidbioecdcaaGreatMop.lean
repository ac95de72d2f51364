/-
  Mdo, Mop
-/
import Derived.Test.YtcfmidbioecdcaaGreatOper
import Derived.Deep.MidRow
namespace Go.Proofs.YtcfmidbioecdcaaGreat
open Go.RowKit
set_option linter.unusedVariables false
set_option linter.unusedSimpArgs false
attribute [local go_sem ↓] Go.wp_at_zero Go.wp_at_succ

theorem Bx.range {w:World}{g:Nat}{cs:List Value}(h:Bx w g cs):w.rangeAt g 0 cs:=fun j v hj=>by rw [Nat.zero_add];exact h j v hj
theorem sizeModel:(Tryz.prog.info? 50).map (·.size)=some 30:=by kernel_rfl
def modelOps (x:ModelD):List OperatorD:=[x.fScan,x.fSort,x.fHash,x.fMerge,x.fNested]
/-- operator k of a model whose cells lie in block g -/
structure OpAt (w:World) (g k:Nat) (o:OperatorD) (A:Option Addr) (n c:Nat):Prop where
 rep:(rOperator NB).rep w [.int .i64 o.fFixed,.int .i64 o.fPerLeft,.int .i64 o.fPerRight,.int .i64 o.fPerOutput,.int .i64 o.fPerPair,.slice A n c] o
 c0:w.cell? ⟨g,k*6,none⟩=some (.int .i64 o.fFixed)
 c1:w.cell? ⟨g,k*6+1,none⟩=some (.int .i64 o.fPerLeft)
 c2:w.cell? ⟨g,k*6+2,none⟩=some (.int .i64 o.fPerRight)
 c3:w.cell? ⟨g,k*6+3,none⟩=some (.int .i64 o.fPerOutput)
 c4:w.cell? ⟨g,k*6+4,none⟩=some (.int .i64 o.fPerPair)
 c5:w.cell? ⟨g,k*6+5,none⟩=some (.slice A n c)
theorem OpAt.below {w w':World}{g k:Nat}{o:OperatorD}{A:Option Addr}{n c:Nat}(h:OpAt w g k o A n c) (hb:Below w.heap.size w w'):OpAt w' g k o A n c :=
 ⟨(rOperator_ok NB).keep h.rep (cells_below hb),cells_below hb _ _ h.c0,cells_below hb _ _ h.c1,cells_below hb _ _ h.c2,cells_below hb _ _ h.c3,cells_below hb _ _ h.c4,cells_below hb _ _ h.c5⟩
theorem modelAt {w w':World}{g:Nat}{x:ModelD}{csx:List Value}(h:(rModel NB).rep w csx x) (hb:Below w.heap.size w w') (bx:Bx w' g csx) {k:Nat}(hk:k<5) :
  ∃ o A n c,Hid ((modelOps x)[k]?=some o)/\OpAt w' g k o A n c:=by
 obtain⟨A0,n0,c0,A1,n1,c1,A2,n2,c2,A3,n3,c3,A4,n4,c4,rfl,i00,i01,i02,i03,i04,r0,i10,i11,i12,i13,i14,r1,i20,i21,i22,i23,i24,r2,i30,i31,i32,i33,i34,r3,i40,i41,i42,i43,i44,r4⟩:=rModel_rep.1 h
 have hk':k=0\/k=1\/k=2\/k=3\/k=4:=by omega
 rcases hk' with rfl|rfl|rfl|rfl|rfl
 ·exact⟨x.fScan,A0,n0,c0,Lib.hid rfl,rOperator_rep.2 ⟨A0,n0,c0,rfl,i00,i01,i02,i03,i04,r0.below (rCostStep_ok NB) hb⟩,bx 0 _ rfl,bx 1 _ rfl,bx 2 _ rfl,bx 3 _ rfl,bx 4 _ rfl,bx 5 _ rfl⟩
 ·exact⟨x.fSort,A1,n1,c1,Lib.hid rfl,rOperator_rep.2 ⟨A1,n1,c1,rfl,i10,i11,i12,i13,i14,r1.below (rCostStep_ok NB) hb⟩,bx 6 _ rfl,bx 7 _ rfl,bx 8 _ rfl,bx 9 _ rfl,bx 10 _ rfl,bx 11 _ rfl⟩
 ·exact⟨x.fHash,A2,n2,c2,Lib.hid rfl,rOperator_rep.2 ⟨A2,n2,c2,rfl,i20,i21,i22,i23,i24,r2.below (rCostStep_ok NB) hb⟩,bx 12 _ rfl,bx 13 _ rfl,bx 14 _ rfl,bx 15 _ rfl,bx 16 _ rfl,bx 17 _ rfl⟩
 ·exact⟨x.fMerge,A3,n3,c3,Lib.hid rfl,rOperator_rep.2 ⟨A3,n3,c3,rfl,i30,i31,i32,i33,i34,r3.below (rCostStep_ok NB) hb⟩,bx 18 _ rfl,bx 19 _ rfl,bx 20 _ rfl,bx 21 _ rfl,bx 22 _ rfl,bx 23 _ rfl⟩
 ·exact⟨x.fNested,A4,n4,c4,Lib.hid rfl,rOperator_rep.2 ⟨A4,n4,c4,rfl,i40,i41,i42,i43,i44,r4.below (rCostStep_ok NB) hb⟩,bx 24 _ rfl,bx 25 _ rfl,bx 26 _ rfl,bx 27 _ rfl,bx 28 _ rfl,bx 29 _ rfl⟩
theorem ptr_at6 {w:World}{g h:Nat}(bx:Bx w h [.pointer (some ⟨g,0,none⟩),.pointer (some ⟨g,0+6,none⟩),.pointer (some ⟨g,0+12,none⟩),.pointer (some ⟨g,0+18,none⟩),.pointer (some ⟨g,0+24,none⟩)]) {k:Nat}(hk:k<5):w.cell? ⟨h,k,none⟩=some (.pointer (some ⟨g,k*6,none⟩)):=by
 have:k=0\/k=1\/k=2\/k=3\/k=4:=by omega
 rcases this with rfl|rfl|rfl|rfl|rfl
 ·exact bx 0 _ rfl
 ·exact bx 1 _ rfl
 ·exact bx 2 _ rfl
 ·exact bx 3 _ rfl
 ·exact bx 4 _ rfl
set_option maxRecDepth 100000 in
set_option maxHeartbeats 1600000 in
theorem iOperators_c (g o:Nat) (w:World) :
  Calls Tryz.prog 123 #[.pointer (some ⟨g,o,none⟩)] w fun e w'=>e=.returned (.slice (some ⟨w.heap.size,0,none⟩) 5 5)/\Bx w' w.heap.size [.pointer (some ⟨g,o,none⟩),.pointer (some ⟨g,o+6,none⟩),.pointer (some ⟨g,o+12,none⟩),.pointer (some ⟨g,o+18,none⟩),.pointer (some ⟨g,o+24,none⟩)]/\Below w.heap.size w w':=by
 go_enter Tryz.func123,Tryz.ntmps123
 go_wp2
 go_region_held3 (fun _=>True) (exact trivial) (fail)
 all_goals
  go_wp2
  go_ret
  exact⟨rfl,fun j v hj=>Bx.new w [.pointer (some ⟨g,o,none⟩),.pointer (some ⟨g,o+6,none⟩),.pointer (some ⟨g,o+12,none⟩),.pointer (some ⟨g,o+18,none⟩),.pointer (some ⟨g,o+24,none⟩)] 162 j v hj,((Below.refl _ _).alloc (Nat.le_refl _) _).drew⟩
end Go.Proofs.YtcfmidbioecdcaaGreat
namespace Go.Proofs.YtcfmidbioecdcaaGreat
open Go.RowKit
set_option linter.unusedVariables false
set_option linter.unusedSimpArgs false
attribute [local go_sem ↓] Go.wp_at_zero Go.wp_at_succ

def opOf (x:ModelD) (k:Int):OperatorD:=if k=1 then x.fScan else if k=2 then x.fSort else if k=3 then x.fHash else if k=4 then x.fMerge else x.fNested
theorem opOf_at (x:ModelD) {k:Nat}(hk:k<5):(modelOps x)[k]?=some (opOf x ((k:Int)+1)):=by
 have:k=0\/k=1\/k=2\/k=3\/k=4:=by omega
 rcases this with rfl|rfl|rfl|rfl|rfl<;>rfl
def RetR (o:OperatorD) (w:World) (e:Ending) (w':World):Prop:=∃ A n c,e=.returned (.agg #[.int .i64 o.fFixed,.int .i64 o.fPerLeft,.int .i64 o.fPerRight,.int .i64 o.fPerOutput,.int .i64 o.fPerPair,.slice A n c])/\(rOperator NB).rep w' [.int .i64 o.fFixed,.int .i64 o.fPerLeft,.int .i64 o.fPerRight,.int .i64 o.fPerOutput,.int .i64 o.fPerPair,.slice A n c] o/\Below w.heap.size w w'
theorem RetR.mk {o:OperatorD}{w w':World}{A:Option Addr}{n c:Nat}(h1:I64 o.fFixed) (h2:I64 o.fPerLeft) (h3:I64 o.fPerRight) (h4:I64 o.fPerOutput) (h5:I64 o.fPerPair) (hs:RS NB (rCostStep NB) w' A n c o.fSteps) (hb:Below w.heap.size w w'):RetR o w (.returned (.agg #[.int .i64 o.fFixed,.int .i64 o.fPerLeft,.int .i64 o.fPerRight,.int .i64 o.fPerOutput,.int .i64 o.fPerPair,.slice A n c])) w':=⟨A,n,c,rfl,rOperator_rep.2 ⟨A,n,c,rfl,h1,h2,h3,h4,h5,hs⟩,hb⟩
set_option maxRecDepth 100000 in
set_option maxHeartbeats 12800000 in
theorem sModelOp_c (csx:List Value) (x:ModelD) (k:Int) (w:World) (hx:(rModel NB).rep w csx x) :
  Calls Tryz.prog 112 #[.agg csx.toArray,.int .i64 k] w (RetR (opOf x k) w):=by
 have rx:=hx
 obtain⟨AxScanSteps,nxScanSteps,cxScanSteps,AxSortSteps,nxSortSteps,cxSortSteps,AxHashSteps,nxHashSteps,cxHashSteps,AxMergeSteps,nxMergeSteps,cxMergeSteps,AxNestedSteps,nxNestedSteps,cxNestedSteps,rfl,hxScanFixed,hxScanPerLeft,hxScanPerRight,hxScanPerOutput,hxScanPerPair,hxScanSteps,hxSortFixed,hxSortPerLeft,hxSortPerRight,hxSortPerOutput,hxSortPerPair,hxSortSteps,hxHashFixed,hxHashPerLeft,hxHashPerRight,hxHashPerOutput,hxHashPerPair,hxHashSteps,hxMergeFixed,hxMergePerLeft,hxMergePerRight,hxMergePerOutput,hxMergePerPair,hxMergeSteps,hxNestedFixed,hxNestedPerLeft,hxNestedPerRight,hxNestedPerOutput,hxNestedPerPair,hxNestedSteps⟩:=rModel_rep.1 hx
 clear hx
 have hB:Below w.heap.size w w:=Below.refl _ _
 have hAx:=(Below.refl (World.heap (w)).size (w)).alloc (Nat.le_refl _) (.cells #[.int .i64 x.fScan.fFixed,.int .i64 x.fScan.fPerLeft,.int .i64 x.fScan.fPerRight,.int .i64 x.fScan.fPerOutput,.int .i64 x.fScan.fPerPair,.slice AxScanSteps nxScanSteps cxScanSteps,.int .i64 x.fSort.fFixed,.int .i64 x.fSort.fPerLeft,.int .i64 x.fSort.fPerRight,.int .i64 x.fSort.fPerOutput,.int .i64 x.fSort.fPerPair,.slice AxSortSteps nxSortSteps cxSortSteps,.int .i64 x.fHash.fFixed,.int .i64 x.fHash.fPerLeft,.int .i64 x.fHash.fPerRight,.int .i64 x.fHash.fPerOutput,.int .i64 x.fHash.fPerPair,.slice AxHashSteps nxHashSteps cxHashSteps,.int .i64 x.fMerge.fFixed,.int .i64 x.fMerge.fPerLeft,.int .i64 x.fMerge.fPerRight,.int .i64 x.fMerge.fPerOutput,.int .i64 x.fMerge.fPerPair,.slice AxMergeSteps nxMergeSteps cxMergeSteps,.int .i64 x.fNested.fFixed,.int .i64 x.fNested.fPerLeft,.int .i64 x.fNested.fPerRight,.int .i64 x.fNested.fPerOutput,.int .i64 x.fNested.fPerPair,.slice AxNestedSteps nxNestedSteps cxNestedSteps] 50)
 replace hB:=hB.trans (hAx.mono hB.size)
 have bxx:=Bx.new (w) [.int .i64 x.fScan.fFixed,.int .i64 x.fScan.fPerLeft,.int .i64 x.fScan.fPerRight,.int .i64 x.fScan.fPerOutput,.int .i64 x.fScan.fPerPair,.slice AxScanSteps nxScanSteps cxScanSteps,.int .i64 x.fSort.fFixed,.int .i64 x.fSort.fPerLeft,.int .i64 x.fSort.fPerRight,.int .i64 x.fSort.fPerOutput,.int .i64 x.fSort.fPerPair,.slice AxSortSteps nxSortSteps cxSortSteps,.int .i64 x.fHash.fFixed,.int .i64 x.fHash.fPerLeft,.int .i64 x.fHash.fPerRight,.int .i64 x.fHash.fPerOutput,.int .i64 x.fHash.fPerPair,.slice AxHashSteps nxHashSteps cxHashSteps,.int .i64 x.fMerge.fFixed,.int .i64 x.fMerge.fPerLeft,.int .i64 x.fMerge.fPerRight,.int .i64 x.fMerge.fPerOutput,.int .i64 x.fMerge.fPerPair,.slice AxMergeSteps nxMergeSteps cxMergeSteps,.int .i64 x.fNested.fFixed,.int .i64 x.fNested.fPerLeft,.int .i64 x.fNested.fPerRight,.int .i64 x.fNested.fPerOutput,.int .i64 x.fNested.fPerPair,.slice AxNestedSteps nxNestedSteps cxNestedSteps] 50
 clear hAx
 obtain⟨wa,hwa⟩:∃ wa,wa=w.alloc (.cells #[.int .i64 x.fScan.fFixed,.int .i64 x.fScan.fPerLeft,.int .i64 x.fScan.fPerRight,.int .i64 x.fScan.fPerOutput,.int .i64 x.fScan.fPerPair,.slice AxScanSteps nxScanSteps cxScanSteps,.int .i64 x.fSort.fFixed,.int .i64 x.fSort.fPerLeft,.int .i64 x.fSort.fPerRight,.int .i64 x.fSort.fPerOutput,.int .i64 x.fSort.fPerPair,.slice AxSortSteps nxSortSteps cxSortSteps,.int .i64 x.fHash.fFixed,.int .i64 x.fHash.fPerLeft,.int .i64 x.fHash.fPerRight,.int .i64 x.fHash.fPerOutput,.int .i64 x.fHash.fPerPair,.slice AxHashSteps nxHashSteps cxHashSteps,.int .i64 x.fMerge.fFixed,.int .i64 x.fMerge.fPerLeft,.int .i64 x.fMerge.fPerRight,.int .i64 x.fMerge.fPerOutput,.int .i64 x.fMerge.fPerPair,.slice AxMergeSteps nxMergeSteps cxMergeSteps,.int .i64 x.fNested.fFixed,.int .i64 x.fNested.fPerLeft,.int .i64 x.fNested.fPerRight,.int .i64 x.fNested.fPerOutput,.int .i64 x.fNested.fPerPair,.slice AxNestedSteps nxNestedSteps cxNestedSteps] 50):=⟨_,rfl⟩
 rw [<- hwa]at hB bxx
 have hsa:w.heap.size+1=wa.heap.size:=by rw [hwa];simp
 have hBA:=(Below.refl wa.heap.size wa).alloc (Nat.le_refl _) (.cells #[.int .i64 0,.int .i64 0,.int .i64 0,.int .i64 0,.int .i64 0,.slice none 0 0] 48)
 have bkR:=Bk.new wa [.int .i64 0,.int .i64 0,.int .i64 0,.int .i64 0,.int .i64 0,.slice none 0 0] 48
 replace hB:=hB.trans (hBA.mono hB.size)
 replace bxx:=bxx.below hBA
 clear hBA
 rw [<- hsa]at bkR
 obtain⟨wb,hwb⟩:∃ wb,wb=wa.alloc (.cells #[.int .i64 0,.int .i64 0,.int .i64 0,.int .i64 0,.int .i64 0,.slice none 0 0] 48):=⟨_,rfl⟩
 have hwb':=hwb.symm
 rw [hwb']at hB bxx bkR
 clear hsa
 by_cases h1:k=1
 ·subst h1
  have kx_0:=bxx 0 _ rfl
  have kx_1:=bxx 1 _ rfl
  have kx_2:=bxx 2 _ rfl
  have kx_3:=bxx 3 _ rfl
  have kx_4:=bxx 4 _ rfl
  have kx_5:=bxx 5 _ rfl
  have f0:=bkR.frozen 0
  have r0:=bkR.bx 0 _ rfl
  have f1:=bkR.frozen 1
  have r1:=bkR.bx 1 _ rfl
  have f2:=bkR.frozen 2
  have r2:=bkR.bx 2 _ rfl
  have f3:=bkR.frozen 3
  have r3:=bkR.bx 3 _ rfl
  have f4:=bkR.frozen 4
  have r4:=bkR.bx 4 _ rfl
  have f5:=bkR.frozen 5
  have r5:=bkR.bx 5 _ rfl
  go_enter Tryz.func112,Tryz.ntmps112
  go_upto_region 3 with fail
  rw [<- hwa,hwb']
  clear hwa hwb hwb'
  go_wp2
  have bk2:=(((((bkR.set 0 (.int .i64 x.fScan.fFixed)).set 1 (.int .i64 x.fScan.fPerLeft)).set 2 (.int .i64 x.fScan.fPerRight)).set 3 (.int .i64 x.fScan.fPerOutput)).set 4 (.int .i64 x.fScan.fPerPair)).set 5 (.slice AxScanSteps nxScanSteps cxScanSteps)
  have q0:=bk2.bx 0 _ rfl
  have q1:=bk2.bx 1 _ rfl
  have q2:=bk2.bx 2 _ rfl
  have q3:=bk2.bx 3 _ rfl
  have q4:=bk2.bx 4 _ rfl
  have q5:=bk2.bx 5 _ rfl
  refine bodyPost_ret (v:=.agg #[.int .i64 x.fScan.fFixed,.int .i64 x.fScan.fPerLeft,.int .i64 x.fScan.fPerRight,.int .i64 x.fScan.fPerOutput,.int .i64 x.fScan.fPerPair,.slice AxScanSteps nxScanSteps cxScanSteps]) (by simp [results,Tryz.results112,go_sem,q0,q1,q2,q3,q4,q5]) rfl ?_
  have hBf:=(((((hB.setCell (p:=⟨w.heap.size+1,0,none⟩) (Nat.le_succ _) (.int .i64 x.fScan.fFixed)).setCell (p:=⟨w.heap.size+1,1,none⟩) (Nat.le_succ _) (.int .i64 x.fScan.fPerLeft)).setCell (p:=⟨w.heap.size+1,2,none⟩) (Nat.le_succ _) (.int .i64 x.fScan.fPerRight)).setCell (p:=⟨w.heap.size+1,3,none⟩) (Nat.le_succ _) (.int .i64 x.fScan.fPerOutput)).setCell (p:=⟨w.heap.size+1,4,none⟩) (Nat.le_succ _) (.int .i64 x.fScan.fPerPair)).setCell (p:=⟨w.heap.size+1,5,none⟩) (Nat.le_succ _) (.slice AxScanSteps nxScanSteps cxScanSteps)
  have ee:opOf x 1=x.fScan:=by simp [opOf]
  rw [ee]
  exact RetR.mk hxScanFixed hxScanPerLeft hxScanPerRight hxScanPerOutput hxScanPerPair (hxScanSteps.below (rCostStep_ok NB) hBf) hBf
 by_cases h2:k=2
 ·subst h2
  have kx_6:=bxx 6 _ rfl
  have kx_7:=bxx 7 _ rfl
  have kx_8:=bxx 8 _ rfl
  have kx_9:=bxx 9 _ rfl
  have kx_10:=bxx 10 _ rfl
  have kx_11:=bxx 11 _ rfl
  have f0:=bkR.frozen 0
  have r0:=bkR.bx 0 _ rfl
  have f1:=bkR.frozen 1
  have r1:=bkR.bx 1 _ rfl
  have f2:=bkR.frozen 2
  have r2:=bkR.bx 2 _ rfl
  have f3:=bkR.frozen 3
  have r3:=bkR.bx 3 _ rfl
  have f4:=bkR.frozen 4
  have r4:=bkR.bx 4 _ rfl
  have f5:=bkR.frozen 5
  have r5:=bkR.bx 5 _ rfl
  go_enter Tryz.func112,Tryz.ntmps112
  go_upto_region 5 with fail
  rw [<- hwa,hwb']
  clear hwa hwb hwb'
  go_wp2
  have bk2:=(((((bkR.set 0 (.int .i64 x.fSort.fFixed)).set 1 (.int .i64 x.fSort.fPerLeft)).set 2 (.int .i64 x.fSort.fPerRight)).set 3 (.int .i64 x.fSort.fPerOutput)).set 4 (.int .i64 x.fSort.fPerPair)).set 5 (.slice AxSortSteps nxSortSteps cxSortSteps)
  have q0:=bk2.bx 0 _ rfl
  have q1:=bk2.bx 1 _ rfl
  have q2:=bk2.bx 2 _ rfl
  have q3:=bk2.bx 3 _ rfl
  have q4:=bk2.bx 4 _ rfl
  have q5:=bk2.bx 5 _ rfl
  refine bodyPost_ret (v:=.agg #[.int .i64 x.fSort.fFixed,.int .i64 x.fSort.fPerLeft,.int .i64 x.fSort.fPerRight,.int .i64 x.fSort.fPerOutput,.int .i64 x.fSort.fPerPair,.slice AxSortSteps nxSortSteps cxSortSteps]) (by simp [results,Tryz.results112,go_sem,q0,q1,q2,q3,q4,q5]) rfl ?_
  have hBf:=(((((hB.setCell (p:=⟨w.heap.size+1,0,none⟩) (Nat.le_succ _) (.int .i64 x.fSort.fFixed)).setCell (p:=⟨w.heap.size+1,1,none⟩) (Nat.le_succ _) (.int .i64 x.fSort.fPerLeft)).setCell (p:=⟨w.heap.size+1,2,none⟩) (Nat.le_succ _) (.int .i64 x.fSort.fPerRight)).setCell (p:=⟨w.heap.size+1,3,none⟩) (Nat.le_succ _) (.int .i64 x.fSort.fPerOutput)).setCell (p:=⟨w.heap.size+1,4,none⟩) (Nat.le_succ _) (.int .i64 x.fSort.fPerPair)).setCell (p:=⟨w.heap.size+1,5,none⟩) (Nat.le_succ _) (.slice AxSortSteps nxSortSteps cxSortSteps)
  have ee:opOf x 2=x.fSort:=by simp [opOf]
  rw [ee]
  exact RetR.mk hxSortFixed hxSortPerLeft hxSortPerRight hxSortPerOutput hxSortPerPair (hxSortSteps.below (rCostStep_ok NB) hBf) hBf
 by_cases h3:k=3
 ·subst h3
  have kx_12:=bxx 12 _ rfl
  have kx_13:=bxx 13 _ rfl
  have kx_14:=bxx 14 _ rfl
  have kx_15:=bxx 15 _ rfl
  have kx_16:=bxx 16 _ rfl
  have kx_17:=bxx 17 _ rfl
  have f0:=bkR.frozen 0
  have r0:=bkR.bx 0 _ rfl
  have f1:=bkR.frozen 1
  have r1:=bkR.bx 1 _ rfl
  have f2:=bkR.frozen 2
  have r2:=bkR.bx 2 _ rfl
  have f3:=bkR.frozen 3
  have r3:=bkR.bx 3 _ rfl
  have f4:=bkR.frozen 4
  have r4:=bkR.bx 4 _ rfl
  have f5:=bkR.frozen 5
  have r5:=bkR.bx 5 _ rfl
  go_enter Tryz.func112,Tryz.ntmps112
  go_upto_region 7 with fail
  rw [<- hwa,hwb']
  clear hwa hwb hwb'
  go_wp2
  have bk2:=(((((bkR.set 0 (.int .i64 x.fHash.fFixed)).set 1 (.int .i64 x.fHash.fPerLeft)).set 2 (.int .i64 x.fHash.fPerRight)).set 3 (.int .i64 x.fHash.fPerOutput)).set 4 (.int .i64 x.fHash.fPerPair)).set 5 (.slice AxHashSteps nxHashSteps cxHashSteps)
  have q0:=bk2.bx 0 _ rfl
  have q1:=bk2.bx 1 _ rfl
  have q2:=bk2.bx 2 _ rfl
  have q3:=bk2.bx 3 _ rfl
  have q4:=bk2.bx 4 _ rfl
  have q5:=bk2.bx 5 _ rfl
  refine bodyPost_ret (v:=.agg #[.int .i64 x.fHash.fFixed,.int .i64 x.fHash.fPerLeft,.int .i64 x.fHash.fPerRight,.int .i64 x.fHash.fPerOutput,.int .i64 x.fHash.fPerPair,.slice AxHashSteps nxHashSteps cxHashSteps]) (by simp [results,Tryz.results112,go_sem,q0,q1,q2,q3,q4,q5]) rfl ?_
  have hBf:=(((((hB.setCell (p:=⟨w.heap.size+1,0,none⟩) (Nat.le_succ _) (.int .i64 x.fHash.fFixed)).setCell (p:=⟨w.heap.size+1,1,none⟩) (Nat.le_succ _) (.int .i64 x.fHash.fPerLeft)).setCell (p:=⟨w.heap.size+1,2,none⟩) (Nat.le_succ _) (.int .i64 x.fHash.fPerRight)).setCell (p:=⟨w.heap.size+1,3,none⟩) (Nat.le_succ _) (.int .i64 x.fHash.fPerOutput)).setCell (p:=⟨w.heap.size+1,4,none⟩) (Nat.le_succ _) (.int .i64 x.fHash.fPerPair)).setCell (p:=⟨w.heap.size+1,5,none⟩) (Nat.le_succ _) (.slice AxHashSteps nxHashSteps cxHashSteps)
  have ee:opOf x 3=x.fHash:=by simp [opOf]
  rw [ee]
  exact RetR.mk hxHashFixed hxHashPerLeft hxHashPerRight hxHashPerOutput hxHashPerPair (hxHashSteps.below (rCostStep_ok NB) hBf) hBf
 by_cases h4:k=4
 ·subst h4
  have kx_18:=bxx 18 _ rfl
  have kx_19:=bxx 19 _ rfl
  have kx_20:=bxx 20 _ rfl
  have kx_21:=bxx 21 _ rfl
  have kx_22:=bxx 22 _ rfl
  have kx_23:=bxx 23 _ rfl
  have f0:=bkR.frozen 0
  have r0:=bkR.bx 0 _ rfl
  have f1:=bkR.frozen 1
  have r1:=bkR.bx 1 _ rfl
  have f2:=bkR.frozen 2
  have r2:=bkR.bx 2 _ rfl
  have f3:=bkR.frozen 3
  have r3:=bkR.bx 3 _ rfl
  have f4:=bkR.frozen 4
  have r4:=bkR.bx 4 _ rfl
  have f5:=bkR.frozen 5
  have r5:=bkR.bx 5 _ rfl
  go_enter Tryz.func112,Tryz.ntmps112
  go_upto_region 9 with fail
  rw [<- hwa,hwb']
  clear hwa hwb hwb'
  go_wp2
  have bk2:=(((((bkR.set 0 (.int .i64 x.fMerge.fFixed)).set 1 (.int .i64 x.fMerge.fPerLeft)).set 2 (.int .i64 x.fMerge.fPerRight)).set 3 (.int .i64 x.fMerge.fPerOutput)).set 4 (.int .i64 x.fMerge.fPerPair)).set 5 (.slice AxMergeSteps nxMergeSteps cxMergeSteps)
  have q0:=bk2.bx 0 _ rfl
  have q1:=bk2.bx 1 _ rfl
  have q2:=bk2.bx 2 _ rfl
  have q3:=bk2.bx 3 _ rfl
  have q4:=bk2.bx 4 _ rfl
  have q5:=bk2.bx 5 _ rfl
  refine bodyPost_ret (v:=.agg #[.int .i64 x.fMerge.fFixed,.int .i64 x.fMerge.fPerLeft,.int .i64 x.fMerge.fPerRight,.int .i64 x.fMerge.fPerOutput,.int .i64 x.fMerge.fPerPair,.slice AxMergeSteps nxMergeSteps cxMergeSteps]) (by simp [results,Tryz.results112,go_sem,q0,q1,q2,q3,q4,q5]) rfl ?_
  have hBf:=(((((hB.setCell (p:=⟨w.heap.size+1,0,none⟩) (Nat.le_succ _) (.int .i64 x.fMerge.fFixed)).setCell (p:=⟨w.heap.size+1,1,none⟩) (Nat.le_succ _) (.int .i64 x.fMerge.fPerLeft)).setCell (p:=⟨w.heap.size+1,2,none⟩) (Nat.le_succ _) (.int .i64 x.fMerge.fPerRight)).setCell (p:=⟨w.heap.size+1,3,none⟩) (Nat.le_succ _) (.int .i64 x.fMerge.fPerOutput)).setCell (p:=⟨w.heap.size+1,4,none⟩) (Nat.le_succ _) (.int .i64 x.fMerge.fPerPair)).setCell (p:=⟨w.heap.size+1,5,none⟩) (Nat.le_succ _) (.slice AxMergeSteps nxMergeSteps cxMergeSteps)
  have ee:opOf x 4=x.fMerge:=by simp [opOf]
  rw [ee]
  exact RetR.mk hxMergeFixed hxMergePerLeft hxMergePerRight hxMergePerOutput hxMergePerPair (hxMergeSteps.below (rCostStep_ok NB) hBf) hBf
 have kx_24:=bxx 24 _ rfl
 have kx_25:=bxx 25 _ rfl
 have kx_26:=bxx 26 _ rfl
 have kx_27:=bxx 27 _ rfl
 have kx_28:=bxx 28 _ rfl
 have kx_29:=bxx 29 _ rfl
 have f0:=bkR.frozen 0
 have r0:=bkR.bx 0 _ rfl
 have f1:=bkR.frozen 1
 have r1:=bkR.bx 1 _ rfl
 have f2:=bkR.frozen 2
 have r2:=bkR.bx 2 _ rfl
 have f3:=bkR.frozen 3
 have r3:=bkR.bx 3 _ rfl
 have f4:=bkR.frozen 4
 have r4:=bkR.bx 4 _ rfl
 have f5:=bkR.frozen 5
 have r5:=bkR.bx 5 _ rfl
 have d1:(k==1)=false:=by simp [h1]
 have d2:(k==2)=false:=by simp [h2]
 have d3:(k==3)=false:=by simp [h3]
 have d4:(k==4)=false:=by simp [h4]
 go_enter Tryz.func112,Tryz.ntmps112
 go_upto_region 10 with fail
 rw [<- hwa,hwb']
 clear hwa hwb hwb'
 go_wp2
 have bk2:=(((((bkR.set 0 (.int .i64 x.fNested.fFixed)).set 1 (.int .i64 x.fNested.fPerLeft)).set 2 (.int .i64 x.fNested.fPerRight)).set 3 (.int .i64 x.fNested.fPerOutput)).set 4 (.int .i64 x.fNested.fPerPair)).set 5 (.slice AxNestedSteps nxNestedSteps cxNestedSteps)
 have q0:=bk2.bx 0 _ rfl
 have q1:=bk2.bx 1 _ rfl
 have q2:=bk2.bx 2 _ rfl
 have q3:=bk2.bx 3 _ rfl
 have q4:=bk2.bx 4 _ rfl
 have q5:=bk2.bx 5 _ rfl
 refine bodyPost_ret (v:=.agg #[.int .i64 x.fNested.fFixed,.int .i64 x.fNested.fPerLeft,.int .i64 x.fNested.fPerRight,.int .i64 x.fNested.fPerOutput,.int .i64 x.fNested.fPerPair,.slice AxNestedSteps nxNestedSteps cxNestedSteps]) (by simp [results,Tryz.results112,go_sem,q0,q1,q2,q3,q4,q5]) rfl ?_
 have hBf:=(((((hB.setCell (p:=⟨w.heap.size+1,0,none⟩) (Nat.le_succ _) (.int .i64 x.fNested.fFixed)).setCell (p:=⟨w.heap.size+1,1,none⟩) (Nat.le_succ _) (.int .i64 x.fNested.fPerLeft)).setCell (p:=⟨w.heap.size+1,2,none⟩) (Nat.le_succ _) (.int .i64 x.fNested.fPerRight)).setCell (p:=⟨w.heap.size+1,3,none⟩) (Nat.le_succ _) (.int .i64 x.fNested.fPerOutput)).setCell (p:=⟨w.heap.size+1,4,none⟩) (Nat.le_succ _) (.int .i64 x.fNested.fPerPair)).setCell (p:=⟨w.heap.size+1,5,none⟩) (Nat.le_succ _) (.slice AxNestedSteps nxNestedSteps cxNestedSteps)
 have ee:opOf x k=x.fNested:=by simp [opOf,h1,h2,h3,h4]
 rw [ee]
 exact RetR.mk hxNestedFixed hxNestedPerLeft hxNestedPerRight hxNestedPerOutput hxNestedPerPair (hxNestedSteps.below (rCostStep_ok NB) hBf) hBf
end Go.Proofs.YtcfmidbioecdcaaGreat
