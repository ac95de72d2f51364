/-
  Adm
-/
import Derived.Test.YtadgmjdafkihfaaGreatDec
import Derived.Test.YtadgmjdafkihfaaGreatMop
import Derived.Deep.MidRow
namespace Go.Proofs.YtadgmjdafkihfaaGreat
open Go.RowKit
set_option linter.unusedVariables false
set_option linter.unusedSimpArgs false
attribute [local go_sem ↓] Go.wp_at_zero Go.wp_at_succ

def opOk (o:OperatorD):Bool:=validOp o&&!hasDec o&&!hasCheap o
def admitted (x:ModelD):Bool:=(modelOps x).all opOk
theorem admitted_no {x:ModelD}{k:Nat}{o:OperatorD}(h:(modelOps x)[k]?=some o) (ho:opOk o=false):admitted x=false:=by
 unfold admitted;rw [List.all_eq_false];exact⟨o,mem_of_at h,by simp [ho]⟩
theorem opOk_invalid {o:OperatorD}(h:validOp o=false):opOk o=false:=by simp [opOk,h]
theorem opOk_dec {o:OperatorD}(h:hasDec o=true):opOk o=false:=by simp [opOk,h]
theorem opOk_cheap {o:OperatorD}(h:hasCheap o=true):opOk o=false:=by simp [opOk,h]
theorem opOk_yes {o:OperatorD}(h1:validOp o=true) (h2:hasDec o=false) (h3:hasCheap o=false):opOk o=true:=by simp [opOk,h1,h2,h3]
theorem admitted_valid {x:ModelD}(h:admitted x=true) {o:OperatorD}(ho:o∈modelOps x):validOp o=true:=by
 unfold admitted at h;rw [List.all_eq_true]at h
 have:=h o ho
 simp only [opOk,Bool.and_eq_true]at this
 exact this.1.1
/-- the number 0 if b, another if not; two slices -/
def RetK (b:Bool) (w:World) (e:Ending) (w':World):Prop:=∃ (k:Int) (v1 v2:Value),e=.returned (.tuple #[.int .i64 k,v1,v2])/\(k==0)=b/\Below w.heap.size w w'
def RefI (x:ModelD) (w:World) (g:Nat) (cs:List Value) (h:Nat) (ps:List Value) (k:Nat) (wr:World):Prop:=((modelOps x).take k).all opOk=true/\Below w.heap.size w wr/\Bx wr g cs/\Bx wr h ps
set_option maxRecDepth 100000 in
set_option maxHeartbeats 12800000 in
theorem iRefuteModel_c (csx:List Value) (x:ModelD) (w:World) (hx:(rModel NB).rep w csx x) :
  Calls Tryz.prog 166 #[.agg csx.toArray] w (RetK (admitted x) w):=by
 have rx:=hx
 obtain⟨AxScanSteps,nxScanSteps,cxScanSteps,AxSortSteps,nxSortSteps,cxSortSteps,AxHashSteps,nxHashSteps,cxHashSteps,AxMergeSteps,nxMergeSteps,cxMergeSteps,AxNestedSteps,nxNestedSteps,cxNestedSteps,rfl,hxScanFixed,hxScanPerLeft,hxScanPerRight,hxScanPerOutput,hxScanPerPair,hxScanSteps,hxSortFixed,hxSortPerLeft,hxSortPerRight,hxSortPerOutput,hxSortPerPair,hxSortSteps,hxHashFixed,hxHashPerLeft,hxHashPerRight,hxHashPerOutput,hxHashPerPair,hxHashSteps,hxMergeFixed,hxMergePerLeft,hxMergePerRight,hxMergePerOutput,hxMergePerPair,hxMergeSteps,hxNestedFixed,hxNestedPerLeft,hxNestedPerRight,hxNestedPerOutput,hxNestedPerPair,hxNestedSteps⟩:=rModel_rep.1 hx
 clear hx
 have hB:Below w.heap.size w w:=Below.refl _ _
 have hAx:=(Below.refl (World.heap (w)).size (w)).alloc (Nat.le_refl _) (.cells #[.int .i64 x.fScan.fFixed,.int .i64 x.fScan.fPerLeft,.int .i64 x.fScan.fPerRight,.int .i64 x.fScan.fPerOutput,.int .i64 x.fScan.fPerPair,.slice AxScanSteps nxScanSteps cxScanSteps,.int .i64 x.fSort.fFixed,.int .i64 x.fSort.fPerLeft,.int .i64 x.fSort.fPerRight,.int .i64 x.fSort.fPerOutput,.int .i64 x.fSort.fPerPair,.slice AxSortSteps nxSortSteps cxSortSteps,.int .i64 x.fHash.fFixed,.int .i64 x.fHash.fPerLeft,.int .i64 x.fHash.fPerRight,.int .i64 x.fHash.fPerOutput,.int .i64 x.fHash.fPerPair,.slice AxHashSteps nxHashSteps cxHashSteps,.int .i64 x.fMerge.fFixed,.int .i64 x.fMerge.fPerLeft,.int .i64 x.fMerge.fPerRight,.int .i64 x.fMerge.fPerOutput,.int .i64 x.fMerge.fPerPair,.slice AxMergeSteps nxMergeSteps cxMergeSteps,.int .i64 x.fNested.fFixed,.int .i64 x.fNested.fPerLeft,.int .i64 x.fNested.fPerRight,.int .i64 x.fNested.fPerOutput,.int .i64 x.fNested.fPerPair,.slice AxNestedSteps nxNestedSteps cxNestedSteps] 59)
 replace hB:=hB.trans (hAx.mono hB.size)
 have bxx:=Bx.new (w) [.int .i64 x.fScan.fFixed,.int .i64 x.fScan.fPerLeft,.int .i64 x.fScan.fPerRight,.int .i64 x.fScan.fPerOutput,.int .i64 x.fScan.fPerPair,.slice AxScanSteps nxScanSteps cxScanSteps,.int .i64 x.fSort.fFixed,.int .i64 x.fSort.fPerLeft,.int .i64 x.fSort.fPerRight,.int .i64 x.fSort.fPerOutput,.int .i64 x.fSort.fPerPair,.slice AxSortSteps nxSortSteps cxSortSteps,.int .i64 x.fHash.fFixed,.int .i64 x.fHash.fPerLeft,.int .i64 x.fHash.fPerRight,.int .i64 x.fHash.fPerOutput,.int .i64 x.fHash.fPerPair,.slice AxHashSteps nxHashSteps cxHashSteps,.int .i64 x.fMerge.fFixed,.int .i64 x.fMerge.fPerLeft,.int .i64 x.fMerge.fPerRight,.int .i64 x.fMerge.fPerOutput,.int .i64 x.fMerge.fPerPair,.slice AxMergeSteps nxMergeSteps cxMergeSteps,.int .i64 x.fNested.fFixed,.int .i64 x.fNested.fPerLeft,.int .i64 x.fNested.fPerRight,.int .i64 x.fNested.fPerOutput,.int .i64 x.fNested.fPerPair,.slice AxNestedSteps nxNestedSteps cxNestedSteps] 59
 clear hAx
 go_enter Tryz.func166,Tryz.ntmps166
 go_wp2_with fail
 refine(iOperators_c _ 0 _).mono ?_
 rintro e w1 ⟨rfl,bxp,hb1⟩
 replace hB:=hB.trans (hb1.mono hB.size)
 replace bxx:=bxx.below hb1
 clear hb1
 simp only [World.size_alloc]at bxp
 go_wp2
 go_loopw [15] (fun i wr=>∃ k:Nat,k<=5/\i=.int .i64 k/\RefI x w w.heap.size [.int .i64 x.fScan.fFixed,.int .i64 x.fScan.fPerLeft,.int .i64 x.fScan.fPerRight,.int .i64 x.fScan.fPerOutput,.int .i64 x.fScan.fPerPair,.slice AxScanSteps nxScanSteps cxScanSteps,.int .i64 x.fSort.fFixed,.int .i64 x.fSort.fPerLeft,.int .i64 x.fSort.fPerRight,.int .i64 x.fSort.fPerOutput,.int .i64 x.fSort.fPerPair,.slice AxSortSteps nxSortSteps cxSortSteps,.int .i64 x.fHash.fFixed,.int .i64 x.fHash.fPerLeft,.int .i64 x.fHash.fPerRight,.int .i64 x.fHash.fPerOutput,.int .i64 x.fHash.fPerPair,.slice AxHashSteps nxHashSteps cxHashSteps,.int .i64 x.fMerge.fFixed,.int .i64 x.fMerge.fPerLeft,.int .i64 x.fMerge.fPerRight,.int .i64 x.fMerge.fPerOutput,.int .i64 x.fMerge.fPerPair,.slice AxMergeSteps nxMergeSteps cxMergeSteps,.int .i64 x.fNested.fFixed,.int .i64 x.fNested.fPerLeft,.int .i64 x.fNested.fPerRight,.int .i64 x.fNested.fPerOutput,.int .i64 x.fNested.fPerPair,.slice AxNestedSteps nxNestedSteps cxNestedSteps] (w.heap.size+1) [.pointer (some ⟨w.heap.size,0,none⟩),.pointer (some ⟨w.heap.size,0+6,none⟩),.pointer (some ⟨w.heap.size,0+12,none⟩),.pointer (some ⟨w.heap.size,0+18,none⟩),.pointer (some ⟨w.heap.size,0+24,none⟩)] k wr) (fun i _=>5 - (intOf i).toNat)
 case atStart=>exact⟨0,Nat.zero_le _,rfl,rfl,hB,bxx,bxp⟩
 case round =>
  clear hB bxx bxp
  obtain⟨k,hk,rfl,hall,hB,bxx,bxp⟩:=hrel
  have HA:=Lib.hid hall;clear hall
  by_cases hlt:k<5
  ·obtain⟨o,A,n,c,Ho,hO⟩:=modelAt rx hB bxx hlt
   have kp:=ptr_at6 bxp hlt
   have o0:=hO.c0
   have o1:=hO.c1
   have o2:=hO.c2
   have o3:=hO.c3
   have o4:=hO.c4
   have o5:=hO.c5
   go_wp2_with fail
   refine(iIsValidOperator_c _ o _ hO.rep).mono ?_
   rintro e w2 ⟨rfl,hb2⟩
   replace hB:=hB.trans (hb2.mono hB.size)
   replace bxx:=bxx.below hb2
   replace bxp:=bxp.below hb2
   replace hO:=hO.below hb2
   clear hb2 kp o0 o1 o2 o3 o4 o5
   have HNZ:Hid (((1:Int)+k==0)=false):=Lib.hid (by simp;omega)
   cases hv:validOp o
   ·go_wp2
    go_ret3
    exact⟨_,_,_,rfl,by rw [admitted_no Ho.out (opOk_invalid hv)];exact HNZ.out,hB⟩
   have HV:=Lib.hid hv;clear hv
   have o0:=hO.c0
   have o1:=hO.c1
   have o2:=hO.c2
   have o3:=hO.c3
   have o4:=hO.c4
   have o5:=hO.c5
   go_wp2_with fail
   refine(iFindDecrease_c _ o _ hO.rep).mono ?_
   rintro e w3 ⟨v1,v2,rfl,hb3⟩
   replace hB:=hB.trans (hb3.mono hB.size)
   replace bxx:=bxx.below hb3
   replace bxp:=bxp.below hb3
   replace hO:=hO.below hb3
   clear hb3 o0 o1 o2 o3 o4 o5
   rw [HV.out,Bool.true_and]
   cases hd:hasDec o
   rotate_left
   ·go_wp2
    go_ret3
    exact⟨_,_,_,rfl,by rw [admitted_no Ho.out (opOk_dec hd)];exact HNZ.out,hB⟩
   have HD:=Lib.hid hd;clear hd
   go_wp2_with fail
   refine(iTriples_c _).mono ?_
   rintro e w9 ⟨A2,n2,c2,rfl,M2,hb9⟩
   have hn2:=M2.len
   rw [tripsTo_len]at hn2
   subst hn2
   replace hB:=hB.trans (hb9.mono hB.size)
   replace bxx:=bxx.below hb9
   replace bxp:=bxp.below hb9
   replace hO:=hO.below hb9
   clear hb9
   have hR:=M2.rs (rSlice_ok _ _ rInt_ok);clear M2
   go_wp2
   go_loopw [42] (fun i wr=>∃ q:Nat,q<=512/\i=.int .i64 q/\(List.range q).all (fun i=>!cheapT o (trip i))=true/\RS NB (rSlice NB 3 rInt) wr A2 512 c2 (tripsTo 512)/\OpAt wr w.heap.size k o A n c/\Below w.heap.size w wr/\Bx wr w.heap.size [.int .i64 x.fScan.fFixed,.int .i64 x.fScan.fPerLeft,.int .i64 x.fScan.fPerRight,.int .i64 x.fScan.fPerOutput,.int .i64 x.fScan.fPerPair,.slice AxScanSteps nxScanSteps cxScanSteps,.int .i64 x.fSort.fFixed,.int .i64 x.fSort.fPerLeft,.int .i64 x.fSort.fPerRight,.int .i64 x.fSort.fPerOutput,.int .i64 x.fSort.fPerPair,.slice AxSortSteps nxSortSteps cxSortSteps,.int .i64 x.fHash.fFixed,.int .i64 x.fHash.fPerLeft,.int .i64 x.fHash.fPerRight,.int .i64 x.fHash.fPerOutput,.int .i64 x.fHash.fPerPair,.slice AxHashSteps nxHashSteps cxHashSteps,.int .i64 x.fMerge.fFixed,.int .i64 x.fMerge.fPerLeft,.int .i64 x.fMerge.fPerRight,.int .i64 x.fMerge.fPerOutput,.int .i64 x.fMerge.fPerPair,.slice AxMergeSteps nxMergeSteps cxMergeSteps,.int .i64 x.fNested.fFixed,.int .i64 x.fNested.fPerLeft,.int .i64 x.fNested.fPerRight,.int .i64 x.fNested.fPerOutput,.int .i64 x.fNested.fPerPair,.slice AxNestedSteps nxNestedSteps cxNestedSteps]/\Bx wr (w.heap.size+1) [.pointer (some ⟨w.heap.size,0,none⟩),.pointer (some ⟨w.heap.size,0+6,none⟩),.pointer (some ⟨w.heap.size,0+12,none⟩),.pointer (some ⟨w.heap.size,0+18,none⟩),.pointer (some ⟨w.heap.size,0+24,none⟩)]) (fun i _=>512 - (intOf i).toNat)
   case atStart=>exact⟨0,Nat.zero_le _,rfl,rfl,hR,hO,hB,bxx,bxp⟩
   case round =>
    clear hR hO hB bxx bxp
    obtain⟨q,hq,rfl,hall,hR,hO,hB,bxx,bxp⟩:=hrel
    have HA2:=Lib.hid hall;clear hall
    by_cases hlt2:q<512
    ·obtain⟨b,off,t,A3,n3,c3,rfl,hc,hRt,ht⟩:=hR.rowT hlt2
     have htt:=(tripsTo_at ht.out).1
     have hT:Trip t:=by rw [htt];exact trip_trip hlt2
     have HTT:=Lib.hid htt;clear htt ht
     have hcb:=hT.bd HV.out
     have HT:=Lib.hid hT;clear hT
     have o0:=hO.c0
     have o1:=hO.c1
     have o2:=hO.c2
     have o3:=hO.c3
     have o4:=hO.c4
     have o5:=hO.c5
     go_wp2_with fail
     refine(iTripleCost_c _ o _ _ _ t _ hO.rep hRt HV.out HT.out).mono ?_
     rintro e w4 ⟨rfl,hb4⟩
     replace hB:=hB.trans (hb4.mono hB.size)
     replace bxx:=bxx.below hb4
     replace bxp:=bxp.below hb4
     replace hO:=hO.below hb4
     replace hR:=hR.below (rSlice_ok NB 3 rInt_ok) hb4
     clear hb4 hc o0 o1 o2 o3 o4 o5
     have HCT:Hid (cheapT o t=decide (costL o t<1)):=Lib.hid rfl
     by_cases hcc:costL o t<1
     ·have HCC:=Lib.hid (HCT.out.trans (decide_eq_true hcc))
      go_wp2
      go_ret3
      exact⟨_,_,_,rfl,by rw [admitted_no Ho.out (opOk_cheap (hasCheap_yes hlt2 (by rw [<- HTT.out];exact HCC.out)))];exact HNZ.out,hB⟩
     ·have HCC:=Lib.hid (HCT.out.trans (decide_eq_false hcc))
      go_wp2
      go_roundw
      case rel=>exact⟨q+1,by omega,by go_num,rangeAll_snoc HA2.out (by rw [<- HTT.out,HCC.out];rfl),hR,hO,hB,bxx,bxp⟩
      case measure=>simp [intOf];omega
    ·have HC:=Lib.hid (hasCheap_no (show(List.range 512).all (fun i=>!cheapT o (trip i))=true by have:=HA2.out;rwa [show q=512 by omega]at this))
     go_wp2
     go_roundw
     case rel=>exact⟨k+1,by omega,by go_num,all_snoc' HA.out Ho.out (opOk_yes HV.out HD.out HC.out),hB,bxx,bxp⟩
     case measure=>simp [intOf];omega
  ·have HF:Hid (admitted x=true):=by show(modelOps x).all opOk=true;have:=HA.out;rwa [List.take_of_length_le (by simp [modelOps];omega)]at this
   go_wp2
   go_ret3
   exact⟨_,_,_,rfl,by rw [HF.out];rfl,hB⟩
set_option maxRecDepth 100000 in
set_option maxHeartbeats 1600000 in
theorem iIsAdmitted_c (csx:List Value) (x:ModelD) (w:World) (hx:(rModel NB).rep w csx x) :
  Calls Tryz.prog 85 #[.agg csx.toArray] w fun e w'=>e=.returned (.bool (admitted x))/\Below w.heap.size w w':=by
 have rx:=hx
 obtain⟨AxScanSteps,nxScanSteps,cxScanSteps,AxSortSteps,nxSortSteps,cxSortSteps,AxHashSteps,nxHashSteps,cxHashSteps,AxMergeSteps,nxMergeSteps,cxMergeSteps,AxNestedSteps,nxNestedSteps,cxNestedSteps,rfl,hxScanFixed,hxScanPerLeft,hxScanPerRight,hxScanPerOutput,hxScanPerPair,hxScanSteps,hxSortFixed,hxSortPerLeft,hxSortPerRight,hxSortPerOutput,hxSortPerPair,hxSortSteps,hxHashFixed,hxHashPerLeft,hxHashPerRight,hxHashPerOutput,hxHashPerPair,hxHashSteps,hxMergeFixed,hxMergePerLeft,hxMergePerRight,hxMergePerOutput,hxMergePerPair,hxMergeSteps,hxNestedFixed,hxNestedPerLeft,hxNestedPerRight,hxNestedPerOutput,hxNestedPerPair,hxNestedSteps⟩:=rModel_rep.1 hx
 clear hx
 have hB:Below w.heap.size w w:=Below.refl _ _
 have hAx:=(Below.refl (World.heap (w)).size (w)).alloc (Nat.le_refl _) (.cells #[.int .i64 x.fScan.fFixed,.int .i64 x.fScan.fPerLeft,.int .i64 x.fScan.fPerRight,.int .i64 x.fScan.fPerOutput,.int .i64 x.fScan.fPerPair,.slice AxScanSteps nxScanSteps cxScanSteps,.int .i64 x.fSort.fFixed,.int .i64 x.fSort.fPerLeft,.int .i64 x.fSort.fPerRight,.int .i64 x.fSort.fPerOutput,.int .i64 x.fSort.fPerPair,.slice AxSortSteps nxSortSteps cxSortSteps,.int .i64 x.fHash.fFixed,.int .i64 x.fHash.fPerLeft,.int .i64 x.fHash.fPerRight,.int .i64 x.fHash.fPerOutput,.int .i64 x.fHash.fPerPair,.slice AxHashSteps nxHashSteps cxHashSteps,.int .i64 x.fMerge.fFixed,.int .i64 x.fMerge.fPerLeft,.int .i64 x.fMerge.fPerRight,.int .i64 x.fMerge.fPerOutput,.int .i64 x.fMerge.fPerPair,.slice AxMergeSteps nxMergeSteps cxMergeSteps,.int .i64 x.fNested.fFixed,.int .i64 x.fNested.fPerLeft,.int .i64 x.fNested.fPerRight,.int .i64 x.fNested.fPerOutput,.int .i64 x.fNested.fPerPair,.slice AxNestedSteps nxNestedSteps cxNestedSteps] 59)
 replace hB:=hB.trans (hAx.mono hB.size)
 have bxx:=Bx.new (w) [.int .i64 x.fScan.fFixed,.int .i64 x.fScan.fPerLeft,.int .i64 x.fScan.fPerRight,.int .i64 x.fScan.fPerOutput,.int .i64 x.fScan.fPerPair,.slice AxScanSteps nxScanSteps cxScanSteps,.int .i64 x.fSort.fFixed,.int .i64 x.fSort.fPerLeft,.int .i64 x.fSort.fPerRight,.int .i64 x.fSort.fPerOutput,.int .i64 x.fSort.fPerPair,.slice AxSortSteps nxSortSteps cxSortSteps,.int .i64 x.fHash.fFixed,.int .i64 x.fHash.fPerLeft,.int .i64 x.fHash.fPerRight,.int .i64 x.fHash.fPerOutput,.int .i64 x.fHash.fPerPair,.slice AxHashSteps nxHashSteps cxHashSteps,.int .i64 x.fMerge.fFixed,.int .i64 x.fMerge.fPerLeft,.int .i64 x.fMerge.fPerRight,.int .i64 x.fMerge.fPerOutput,.int .i64 x.fMerge.fPerPair,.slice AxMergeSteps nxMergeSteps cxMergeSteps,.int .i64 x.fNested.fFixed,.int .i64 x.fNested.fPerLeft,.int .i64 x.fNested.fPerRight,.int .i64 x.fNested.fPerOutput,.int .i64 x.fNested.fPerPair,.slice AxNestedSteps nxNestedSteps cxNestedSteps] 59
 clear hAx
 go_enter Tryz.func85,Tryz.ntmps85
 go_wp2_with (refine wpList_load_mid rfl 59 _ rfl w.heap.size 0 rfl [.int .i64 x.fScan.fFixed,.int .i64 x.fScan.fPerLeft,.int .i64 x.fScan.fPerRight,.int .i64 x.fScan.fPerOutput,.int .i64 x.fScan.fPerPair,.slice AxScanSteps nxScanSteps cxScanSteps,.int .i64 x.fSort.fFixed,.int .i64 x.fSort.fPerLeft,.int .i64 x.fSort.fPerRight,.int .i64 x.fSort.fPerOutput,.int .i64 x.fSort.fPerPair,.slice AxSortSteps nxSortSteps cxSortSteps,.int .i64 x.fHash.fFixed,.int .i64 x.fHash.fPerLeft,.int .i64 x.fHash.fPerRight,.int .i64 x.fHash.fPerOutput,.int .i64 x.fHash.fPerPair,.slice AxHashSteps nxHashSteps cxHashSteps,.int .i64 x.fMerge.fFixed,.int .i64 x.fMerge.fPerLeft,.int .i64 x.fMerge.fPerRight,.int .i64 x.fMerge.fPerOutput,.int .i64 x.fMerge.fPerPair,.slice AxMergeSteps nxMergeSteps cxMergeSteps,.int .i64 x.fNested.fFixed,.int .i64 x.fNested.fPerLeft,.int .i64 x.fNested.fPerRight,.int .i64 x.fNested.fPerOutput,.int .i64 x.fNested.fPerPair,.slice AxNestedSteps nxNestedSteps cxNestedSteps] _ bxx.range Tryz.underlying59 rfl sizeModel ?_)
 refine(iRefuteModel_c _ x _ ((rModel_ok NB).keep rx (cells_below hB))).mono ?_
 rintro e w1 ⟨k,v1,v2,rfl,hk,hb1⟩
 replace hB:=hB.trans (hb1.mono hB.size)
 replace bxx:=bxx.below hb1
 clear hb1
 have HK:=Lib.hid hk;clear hk
 go_wp2
 go_ret
 exact⟨ret_bool HK.out,hB⟩

end Go.Proofs.YtadgmjdafkihfaaGreat
