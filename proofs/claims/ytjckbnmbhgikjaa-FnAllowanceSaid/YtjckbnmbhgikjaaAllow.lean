/-
  Allow
-/
import Derived.Test.YtjckbnmbhgikjaaAdm
import Derived.Test.YtjckbnmbhgikjaaOdr
import Derived.Test.YtjckbnmbhgikjaaMid
namespace Go.Proofs.Ytjckbnmbhgikjaa
open Go.RowKit
set_option linter.unusedVariables false
set_option linter.unusedSimpArgs false
attribute [local go_sem ↓] Go.wp_at_zero Go.wp_at_succ

/-- how many of 0 .. 7 in a row, from 0 on -/
def allowN (p:Nat->Bool):Nat:=if !p 0 then 0 else if !p 1 then 1 else if !p 2 then 2 else if !p 3 then 3 else if !p 4 then 4 else if !p 5 then 5 else if !p 6 then 6 else if !p 7 then 7 else 8
theorem allowN_stop {p:Nat->Bool}{k:Nat}(h:(List.range k).all p=true) (hk:k<8) (hp:p k=false):allowN p=k:=by
 rw [List.all_eq_true]at h
 have g:∀ j,j<k->p j=true:=fun j hj=>h j (List.mem_range.2 hj)
 have:k=0\/k=1\/k=2\/k=3\/k=4\/k=5\/k=6\/k=7:=by omega
 rcases this with rfl|rfl|rfl|rfl|rfl|rfl|rfl|rfl
 ·simp [allowN,hp]
 ·simp [allowN,hp,g 0]
 ·simp [allowN,hp,g 0,g 1]
 ·simp [allowN,hp,g 0,g 1,g 2]
 ·simp [allowN,hp,g 0,g 1,g 2,g 3]
 ·simp [allowN,hp,g 0,g 1,g 2,g 3,g 4]
 ·simp [allowN,hp,g 0,g 1,g 2,g 3,g 4,g 5]
 ·simp [allowN,hp,g 0,g 1,g 2,g 3,g 4,g 5,g 6]
theorem allowN_all {p:Nat->Bool}(h:(List.range 8).all p=true):allowN p=8:=by
 rw [List.all_eq_true]at h
 have g:∀ j,j<8->p j=true:=fun j hj=>h j (List.mem_range.2 hj)
 simp [allowN,g 0,g 1,g 2,g 3,g 4,g 5,g 6,g 7]
theorem allowN_le (p:Nat->Bool):allowN p<=8:=by 
 unfold allowN;repeat' split
 all_goals omega
def payB (o:OperatorD) (l r b:Int) (k:Nat):Bool:=decide (opCost o l r (clsSize k)<=b)
def allow (o:OperatorD) (l r b:Int):Int:=(allowN (payB o l r b):Nat)
set_option maxRecDepth 100000 in
set_option maxHeartbeats 1600000 in
theorem iAllowance_c (csx:List Value) (x:OperatorD) (l:Int) (r:Int) (b:Int) (w:World) (hx:(rOperator NB).rep w csx x) (hv:validOp x=true) (hl:0<=l/\l<=4096) (hr:0<=r/\r<=4096) :
  Calls Try.prog 19 #[.agg csx.toArray,.int .i64 l,.int .i64 r,.int .i64 b] w fun e w'=>e=.returned (.int .i64 (allow x l r b))/\Below w.heap.size w w':=by
 have rx:=hx
 obtain⟨AxSteps,nxSteps,cxSteps,rfl,hxFixed,hxPerLeft,hxPerRight,hxPerOutput,hxPerPair,hxSteps⟩:=rOperator_rep.1 hx
 clear hx
 have hB:Below w.heap.size w w:=Below.refl _ _
 have hAx:=(Below.refl (World.heap (w)).size (w)).alloc (Nat.le_refl _) (.cells #[.int .i64 x.fFixed,.int .i64 x.fPerLeft,.int .i64 x.fPerRight,.int .i64 x.fPerOutput,.int .i64 x.fPerPair,.slice AxSteps nxSteps cxSteps] 26)
 replace hB:=hB.trans (hAx.mono hB.size)
 have bxx:=Bx.new (w) [.int .i64 x.fFixed,.int .i64 x.fPerLeft,.int .i64 x.fPerRight,.int .i64 x.fPerOutput,.int .i64 x.fPerPair,.slice AxSteps nxSteps cxSteps] 26
 clear hAx
 have HV:=Lib.hid hv;clear hv
 have HL:=Lib.hid hl;clear hl
 have HR:=Lib.hid hr;clear hr
 go_enter Try.func19,Try.ntmps19
 go_wp2
 go_loopw [9] (fun i wr=>∃ k:Nat,k<=8/\i=.int .i64 k/\(List.range k).all (payB x l r b)=true/\Below w.heap.size w wr/\Bx wr w.heap.size [.int .i64 x.fFixed,.int .i64 x.fPerLeft,.int .i64 x.fPerRight,.int .i64 x.fPerOutput,.int .i64 x.fPerPair,.slice AxSteps nxSteps cxSteps]) (fun i _=>8 - (intOf i).toNat)
 case atStart=>exact⟨0,Nat.zero_le _,rfl,rfl,hB,bxx⟩
 case round =>
  clear hB bxx
  obtain⟨k,hk,rfl,hall,hB,bxx⟩:=hrel
  have HA:=Lib.hid hall;clear hall
  by_cases hlt:k<8
  ·have d7:decide ((k:Int)<=7)=true:=by simp;omega
   have hc:=Lib.hid (clsSize_bd (k:=k) (by omega) (by omega))
   have hcb:=opCost_bd HV.out HL.out HR.out hc.out
   have SS:∀ w',Below wr.heap.size wr w'->(w'.cell? ⟨w.heap.size,0,none⟩=some (.int .i64 x.fFixed)/\w'.cell? ⟨w.heap.size,1,none⟩=some (.int .i64 x.fPerLeft)/\w'.cell? ⟨w.heap.size,2,none⟩=some (.int .i64 x.fPerRight)/\w'.cell? ⟨w.heap.size,3,none⟩=some (.int .i64 x.fPerOutput)/\w'.cell? ⟨w.heap.size,4,none⟩=some (.int .i64 x.fPerPair)/\w'.cell? ⟨w.heap.size,5,none⟩=some (.slice AxSteps nxSteps cxSteps)):=fun w' hb=>⟨cells_below hb _ _ (bxx 0 _ rfl),cells_below hb _ _ (bxx 1 _ rfl),cells_below hb _ _ (bxx 2 _ rfl),cells_below hb _ _ (bxx 3 _ rfl),cells_below hb _ _ (bxx 4 _ rfl),cells_below hb _ _ (bxx 5 _ rfl)⟩
   have HSS:=Lib.hid SS;clear SS
   have hR:=Lib.hid ((rOperator_ok NB).keep rx (cells_below hB.drew))
   go_wp2
   go_region_held3 (fun w'=>w'.cell? ⟨w.heap.size,0,none⟩=some (.int .i64 x.fFixed)/\w'.cell? ⟨w.heap.size,1,none⟩=some (.int .i64 x.fPerLeft)/\w'.cell? ⟨w.heap.size,2,none⟩=some (.int .i64 x.fPerRight)/\w'.cell? ⟨w.heap.size,3,none⟩=some (.int .i64 x.fPerOutput)/\w'.cell? ⟨w.heap.size,4,none⟩=some (.int .i64 x.fPerPair)/\w'.cell? ⟨w.heap.size,5,none⟩=some (.slice AxSteps nxSteps cxSteps)) (first|exact HSS.out _ (Below.refl _ _).drew|exact HSS.out _ hC5) ((first|(go_at_call 37;refine(iClassSize_q _ _).mono ?_;rintro e w' ⟨rfl,rfl⟩)|(go_at_call 26;refine(iOpCost_c _ x _ _ _ _ ?_ HV.out HL.out HR.out hc.out).mono ?_;exact hR.out;rintro e w5 ⟨rfl,hb5⟩;have hC5:Below wr.heap.size wr w5:=Below.trans (Below.refl wr.heap.size wr).drew hb5)))
   all_goals
    replace hB:=hB.trans (hC5.mono hB.size)
    replace bxx:=bxx.below hC5
    clear HSS hC5 hb5 hR
    have HP:Hid (payB x l r b k=decide (opCost x l r (clsSize k)<=b)):=Lib.hid rfl
    by_cases hcc:opCost x l r (clsSize k)<=b
    ·have HCC:=Lib.hid (HP.out.trans (decide_eq_true hcc))
     go_wp2
     go_roundw
     case rel=>exact⟨k+1,by omega,by go_num,rangeAll_snoc HA.out HCC.out,hB,bxx⟩
     case measure=>simp [intOf];omega
    ·have HCC:=Lib.hid (HP.out.trans (decide_eq_false hcc))
     go_wp2
     go_ret
     exact⟨ret_int (by rw [allow,allowN_stop HA.out hlt HCC.out]),hB⟩
  ·have d7:decide ((k:Int)<=7)=false:=by simp;omega
   have H8:=Lib.hid (allowN_all (p:=payB x l r b) (by have:=HA.out;rwa [show k=8 by omega]at this))
   go_wp2
   go_quiet (fail)
   go_wp2
   go_ret
   exact⟨ret_int (by rw [allow,H8.out,show k=8 by omega]),below_drewN hB _⟩
def stepAllow (x:ModelD) (k l r b:Int):Int:=if inR k 1 5&&admitted x&&inR l 0 4096&&inR r 0 4096 then allow (opOf x k) l r b else 0
theorem opOf_mem (x:ModelD) (k:Int):opOf x k∈modelOps x:=by 
 unfold opOf modelOps;repeat' split
 all_goals simp
theorem wpList_load_midW {P:Program}{ops:Array Oper}{rest:List Oper}{op:Oper}{a:Act}{w:World}{Q:Exit->Act->World->Prop}(ty:TypeId) (x:Operand) (ho:op.op=.load ty x)
  (b o:Nat) (hx:a.eval x=.pointer (some ⟨b,o,none⟩)) (cs:List Value) (d:TypeDesc) (hc:w.rangeAt b o cs)
  (hu:P.underlying ty=some d) (hd:d.isRow=true) (hi:(P.info? ty).map (·.size)=some cs.length)
  (hw:Region.wanted op (yielded ops a.tmps)=true) (h:wpList P ops Q rest (a.put op.dst (.agg cs.toArray)) w):wpList P ops Q (op::rest) a w :=
 wpList_step fun K hK=>by rw [if_pos hw];exact wp_load_mid ty x ho b o hx cs d hc hu hd hi (hK _ _ h)

theorem rCostStep_flat (M:Nat):(rCostStep M).Flat:=rIso_flat (rPair_flat rInt_flat rInt_flat) _
theorem RetV.mkOp {o:OperatorD}{w w':World}{A:Option Addr}{n c:Nat}{f:List Nat}(h1:I64 o.fFixed) (h2:I64 o.fPerLeft) (h3:I64 o.fPerRight) (h4:I64 o.fPerOutput) (h5:I64 o.fPerPair) (hs:OS NB 70 (rCostStep NB) w' f A n c o.fSteps) (hf:Fr w.heap.size f) (hb:Below w.heap.size w w'):RetV (rOperator NB) o w (.returned (.agg #[.int .i64 o.fFixed,.int .i64 o.fPerLeft,.int .i64 o.fPerRight,.int .i64 o.fPerOutput,.int .i64 o.fPerPair,.slice A n c])) w':=⟨_,f,rfl,rOperator_own.2 ⟨A,n,c,f,rfl,rfl,h1,h2,h3,h4,h5,hs⟩,hf,hb⟩
set_option maxRecDepth 100000 in
set_option maxHeartbeats 1600000 in
theorem sStepAllowance_c (csx:List Value) (x:ModelD) (k:Int) (l:Int) (r:Int) (b:Int) (w:World) (hx:(rModel NB).rep w csx x) :
  Calls Try.prog 7 #[.agg csx.toArray,.int .i64 k,.int .i64 l,.int .i64 r,.int .i64 b] w fun e w'=>e=.returned (.int .i64 (stepAllow x k l r b))/\Below w.heap.size w w':=by
 have rx:=hx
 obtain⟨AxScanSteps,nxScanSteps,cxScanSteps,AxSortSteps,nxSortSteps,cxSortSteps,AxHashSteps,nxHashSteps,cxHashSteps,AxMergeSteps,nxMergeSteps,cxMergeSteps,AxNestedSteps,nxNestedSteps,cxNestedSteps,rfl,hxScanFixed,hxScanPerLeft,hxScanPerRight,hxScanPerOutput,hxScanPerPair,hxScanSteps,hxSortFixed,hxSortPerLeft,hxSortPerRight,hxSortPerOutput,hxSortPerPair,hxSortSteps,hxHashFixed,hxHashPerLeft,hxHashPerRight,hxHashPerOutput,hxHashPerPair,hxHashSteps,hxMergeFixed,hxMergePerLeft,hxMergePerRight,hxMergePerOutput,hxMergePerPair,hxMergeSteps,hxNestedFixed,hxNestedPerLeft,hxNestedPerRight,hxNestedPerOutput,hxNestedPerPair,hxNestedSteps⟩:=rModel_rep.1 hx
 clear hx
 have hB:Below w.heap.size w w:=Below.refl _ _
 have hAx:=(Below.refl (World.heap (w)).size (w)).alloc (Nat.le_refl _) (.cells #[.int .i64 x.fScan.fFixed,.int .i64 x.fScan.fPerLeft,.int .i64 x.fScan.fPerRight,.int .i64 x.fScan.fPerOutput,.int .i64 x.fScan.fPerPair,.slice AxScanSteps nxScanSteps cxScanSteps,.int .i64 x.fSort.fFixed,.int .i64 x.fSort.fPerLeft,.int .i64 x.fSort.fPerRight,.int .i64 x.fSort.fPerOutput,.int .i64 x.fSort.fPerPair,.slice AxSortSteps nxSortSteps cxSortSteps,.int .i64 x.fHash.fFixed,.int .i64 x.fHash.fPerLeft,.int .i64 x.fHash.fPerRight,.int .i64 x.fHash.fPerOutput,.int .i64 x.fHash.fPerPair,.slice AxHashSteps nxHashSteps cxHashSteps,.int .i64 x.fMerge.fFixed,.int .i64 x.fMerge.fPerLeft,.int .i64 x.fMerge.fPerRight,.int .i64 x.fMerge.fPerOutput,.int .i64 x.fMerge.fPerPair,.slice AxMergeSteps nxMergeSteps cxMergeSteps,.int .i64 x.fNested.fFixed,.int .i64 x.fNested.fPerLeft,.int .i64 x.fNested.fPerRight,.int .i64 x.fNested.fPerOutput,.int .i64 x.fNested.fPerPair,.slice AxNestedSteps nxNestedSteps cxNestedSteps] 28)
 replace hB:=hB.trans (hAx.mono hB.size)
 have bxx:=Bx.new (w) [.int .i64 x.fScan.fFixed,.int .i64 x.fScan.fPerLeft,.int .i64 x.fScan.fPerRight,.int .i64 x.fScan.fPerOutput,.int .i64 x.fScan.fPerPair,.slice AxScanSteps nxScanSteps cxScanSteps,.int .i64 x.fSort.fFixed,.int .i64 x.fSort.fPerLeft,.int .i64 x.fSort.fPerRight,.int .i64 x.fSort.fPerOutput,.int .i64 x.fSort.fPerPair,.slice AxSortSteps nxSortSteps cxSortSteps,.int .i64 x.fHash.fFixed,.int .i64 x.fHash.fPerLeft,.int .i64 x.fHash.fPerRight,.int .i64 x.fHash.fPerOutput,.int .i64 x.fHash.fPerPair,.slice AxHashSteps nxHashSteps cxHashSteps,.int .i64 x.fMerge.fFixed,.int .i64 x.fMerge.fPerLeft,.int .i64 x.fMerge.fPerRight,.int .i64 x.fMerge.fPerOutput,.int .i64 x.fMerge.fPerPair,.slice AxMergeSteps nxMergeSteps cxMergeSteps,.int .i64 x.fNested.fFixed,.int .i64 x.fNested.fPerLeft,.int .i64 x.fNested.fPerRight,.int .i64 x.fNested.fPerOutput,.int .i64 x.fNested.fPerPair,.slice AxNestedSteps nxNestedSteps cxNestedSteps] 28
 clear hAx
 go_enter Try.func7,Try.ntmps7
 go_wp2_with (refine wpList_load_mid rfl 28 _ rfl w.heap.size 0 rfl [.int .i64 x.fScan.fFixed,.int .i64 x.fScan.fPerLeft,.int .i64 x.fScan.fPerRight,.int .i64 x.fScan.fPerOutput,.int .i64 x.fScan.fPerPair,.slice AxScanSteps nxScanSteps cxScanSteps,.int .i64 x.fSort.fFixed,.int .i64 x.fSort.fPerLeft,.int .i64 x.fSort.fPerRight,.int .i64 x.fSort.fPerOutput,.int .i64 x.fSort.fPerPair,.slice AxSortSteps nxSortSteps cxSortSteps,.int .i64 x.fHash.fFixed,.int .i64 x.fHash.fPerLeft,.int .i64 x.fHash.fPerRight,.int .i64 x.fHash.fPerOutput,.int .i64 x.fHash.fPerPair,.slice AxHashSteps nxHashSteps cxHashSteps,.int .i64 x.fMerge.fFixed,.int .i64 x.fMerge.fPerLeft,.int .i64 x.fMerge.fPerRight,.int .i64 x.fMerge.fPerOutput,.int .i64 x.fMerge.fPerPair,.slice AxMergeSteps nxMergeSteps cxMergeSteps,.int .i64 x.fNested.fFixed,.int .i64 x.fNested.fPerLeft,.int .i64 x.fNested.fPerRight,.int .i64 x.fNested.fPerOutput,.int .i64 x.fNested.fPerPair,.slice AxNestedSteps nxNestedSteps cxNestedSteps] _ bxx.range Try.underlying28 rfl sizeModel ?_)
 refine(sIsAdmitted_c _ x _ ((rModel_ok NB).keep rx (cells_below hB))).mono ?_
 rintro e w1 ⟨rfl,hb1⟩
 replace hB:=hB.trans (hb1.mono hB.size)
 replace bxx:=bxx.below hb1
 clear hb1
 cases ha:admitted x
 ·go_wp2
  go_ret
  exact⟨ret_int (a:=0) (by simp [stepAllow,ha]),hB⟩
 cases hk:inR k 1 5
 ·go_wp2_with (go_at_call 20;refine(l1In_v hk _).mono ?_;rintro e w' ⟨rfl,rfl⟩)
  go_ret
  exact⟨ret_int (a:=0) (by simp [stepAllow,hk]),hB⟩
 have K1:=Lib.hid (fun W=>l1In_v hk W)
 cases hl:inR l 0 4096
 ·have K2:=Lib.hid (fun W=>l1In_v hl W)
  have G1:=Lib.hid hk;clear hk
  have G2:=Lib.hid hl;clear hl
  go_wp2_with (first|(go_at_call_of 20 (Value.int IntKind.i64 k);refine(K1.out _).mono ?_;rintro e w' ⟨rfl,rfl⟩)|(go_at_call_of 20 (Value.int IntKind.i64 l);refine(K2.out _).mono ?_;rintro e w' ⟨rfl,rfl⟩))
  go_ret
  exact⟨ret_int (a:=0) (by simp [stepAllow,G2.out]),hB⟩
 have K2:=Lib.hid (fun W=>l1In_v hl W)
 cases hr:inR r 0 4096
 ·have K3:=Lib.hid (fun W=>l1In_v hr W)
  have G1:=Lib.hid hk;clear hk
  have G2:=Lib.hid hl;clear hl
  have G3:=Lib.hid hr;clear hr
  go_wp2_with (first|(go_at_call_of 20 (Value.int IntKind.i64 k);refine(K1.out _).mono ?_;rintro e w' ⟨rfl,rfl⟩)|(go_at_call_of 20 (Value.int IntKind.i64 l);refine(K2.out _).mono ?_;rintro e w' ⟨rfl,rfl⟩)|(go_at_call_of 20 (Value.int IntKind.i64 r);refine(K3.out _).mono ?_;rintro e w' ⟨rfl,rfl⟩))
  go_ret
  exact⟨ret_int (a:=0) (by simp [stepAllow,G3.out]),hB⟩
 have K3:=Lib.hid (fun W=>l1In_v hr W)
 have HF:Hid (stepAllow x k l r b=allow (opOf x k) l r b):=by show stepAllow x k l r b=_;simp [stepAllow,ha,hk,hl,hr]
 have HV:=Lib.hid (admitted_valid ha (opOf_mem x k))
 have HL:=Lib.hid (inR_t.1 hl)
 have HR:=Lib.hid (inR_t.1 hr)
 have HI:=Lib.hid (And.intro hl hr)
 clear ha hk hl hr
 go_wp2_with (first|(go_at_call_of 20 (Value.int IntKind.i64 k);refine(K1.out _).mono ?_;rintro e w' ⟨rfl,rfl⟩)|(go_at_call_of 20 (Value.int IntKind.i64 l);refine(K2.out _).mono ?_;rintro e w' ⟨rfl,rfl⟩)|(go_at_call_of 20 (Value.int IntKind.i64 r);refine(K3.out _).mono ?_;rintro e w' ⟨rfl,rfl⟩))
 clear K1 K2 K3
 go_loopw [11] (fun i wr=>∃ q:Nat,q<=8/\i=.int .i64 q/\(List.range q).all (payB (opOf x k) l r b)=true/\Below w.heap.size w wr/\Bx wr w.heap.size [.int .i64 x.fScan.fFixed,.int .i64 x.fScan.fPerLeft,.int .i64 x.fScan.fPerRight,.int .i64 x.fScan.fPerOutput,.int .i64 x.fScan.fPerPair,.slice AxScanSteps nxScanSteps cxScanSteps,.int .i64 x.fSort.fFixed,.int .i64 x.fSort.fPerLeft,.int .i64 x.fSort.fPerRight,.int .i64 x.fSort.fPerOutput,.int .i64 x.fSort.fPerPair,.slice AxSortSteps nxSortSteps cxSortSteps,.int .i64 x.fHash.fFixed,.int .i64 x.fHash.fPerLeft,.int .i64 x.fHash.fPerRight,.int .i64 x.fHash.fPerOutput,.int .i64 x.fHash.fPerPair,.slice AxHashSteps nxHashSteps cxHashSteps,.int .i64 x.fMerge.fFixed,.int .i64 x.fMerge.fPerLeft,.int .i64 x.fMerge.fPerRight,.int .i64 x.fMerge.fPerOutput,.int .i64 x.fMerge.fPerPair,.slice AxMergeSteps nxMergeSteps cxMergeSteps,.int .i64 x.fNested.fFixed,.int .i64 x.fNested.fPerLeft,.int .i64 x.fNested.fPerRight,.int .i64 x.fNested.fPerOutput,.int .i64 x.fNested.fPerPair,.slice AxNestedSteps nxNestedSteps cxNestedSteps]) (fun i _=>8 - (intOf i).toNat)
 case atStart=>exact⟨0,Nat.zero_le _,rfl,rfl,hB,bxx⟩
 case round =>
  clear hB bxx
  obtain⟨q,hq,rfl,hall,hB,bxx⟩:=hrel
  have HA:=Lib.hid hall;clear hall
  by_cases hlt:q<8
  ·have d7:(q:Int)<=7:=by omega
   have hc:=Lib.hid (clsSize_bd (k:=q) (by omega) (by omega))
   have hcb:=opCost_bd HV.out HL.out HR.out hc.out
   go_upto_region 4 with fail
   iterate 10 go_step
   refine wpList_load_midW 28 _ rfl w.heap.size 0 rfl [.int .i64 x.fScan.fFixed,.int .i64 x.fScan.fPerLeft,.int .i64 x.fScan.fPerRight,.int .i64 x.fScan.fPerOutput,.int .i64 x.fScan.fPerPair,.slice AxScanSteps nxScanSteps cxScanSteps,.int .i64 x.fSort.fFixed,.int .i64 x.fSort.fPerLeft,.int .i64 x.fSort.fPerRight,.int .i64 x.fSort.fPerOutput,.int .i64 x.fSort.fPerPair,.slice AxSortSteps nxSortSteps cxSortSteps,.int .i64 x.fHash.fFixed,.int .i64 x.fHash.fPerLeft,.int .i64 x.fHash.fPerRight,.int .i64 x.fHash.fPerOutput,.int .i64 x.fHash.fPerPair,.slice AxHashSteps nxHashSteps cxHashSteps,.int .i64 x.fMerge.fFixed,.int .i64 x.fMerge.fPerLeft,.int .i64 x.fMerge.fPerRight,.int .i64 x.fMerge.fPerOutput,.int .i64 x.fMerge.fPerPair,.slice AxMergeSteps nxMergeSteps cxMergeSteps,.int .i64 x.fNested.fFixed,.int .i64 x.fNested.fPerLeft,.int .i64 x.fNested.fPerRight,.int .i64 x.fNested.fPerOutput,.int .i64 x.fNested.fPerPair,.slice AxNestedSteps nxNestedSteps cxNestedSteps] _ bxx.range Try.underlying28 rfl sizeModel ?_ ?_
   ·simp [Region.wanted,yielded]
   go_wp2_with fail
   refine(sModelOp_c _ x k _ ((rModel_ok NB).keep rx (cells_below hB))).mono ?_
   rintro e w2 ⟨A1,n1,c1,rfl,ro,hb2⟩
   replace hB:=hB.trans (hb2.mono hB.size)
   replace bxx:=bxx.below hb2
   clear hb2
   generalize hop:opOf x k=op at ro HV HF hcb
   have Hop:=Lib.hid hop;clear hop
   have HCO:Hid (opCostV op l r (clsSize q)=opCost op l r (clsSize q)):=by show opCostV _ _ _ _=_;rw [opCostV,HV.out,HI.out.1,HI.out.2,inR_t.2 hc.out];rfl
   have HP:Hid (payB op l r b q=decide (opCost op l r (clsSize q)<=b)):=Lib.hid rfl
   go_wp2_with fail
   refine(sClassSize_q _ _).mono ?_
   rintro e w' ⟨rfl,rfl⟩
   go_wp2_with fail
   refine(sOpCost_c _ op _ _ _ _ ro).mono ?_
   rintro e w3 ⟨rfl,hb3⟩
   replace hB:=hB.trans (hb3.mono hB.size)
   replace bxx:=bxx.below hb3
   clear hb3
   rw [HCO.out]
   by_cases hcc:opCost op l r (clsSize q)<=b
   ·have HCC:=Lib.hid (HP.out.trans (decide_eq_true hcc))
    go_wp2
    go_roundw
    case rel=>exact⟨q+1,by omega,by go_num,rangeAll_snoc HA.out (by rw [Hop.out];exact HCC.out),hB,bxx⟩
    case measure=>simp [intOf];omega
   ·have HCC:=Lib.hid (HP.out.trans (decide_eq_false hcc))
    go_wp2
    go_ret
    exact⟨ret_int (by rw [HF.out,allow,allowN_stop (by rw [<- Hop.out];exact HA.out) hlt HCC.out]),hB⟩
  ·have d7:¬ (q:Int)<=7:=by omega
   have H8:=Lib.hid (allowN_all (p:=payB (opOf x k) l r b) (by have:=HA.out;rwa [show q=8 by omega]at this))
   go_wp2
   go_ret
   exact⟨ret_int (by rw [HF.out,allow,H8.out,show q=8 by omega]),hB⟩

set_option maxRecDepth 100000 in
set_option maxHeartbeats 1600000 in
theorem iCopyOperator_c (csx:List Value) (x:OperatorD) (w:World) (hx:(rOperator NB).rep w csx x) :
  Calls Try.prog 34 #[.agg csx.toArray] w (RetV (rOperator NB) x w):=by
 have rx:=hx
 obtain⟨AxSteps,nxSteps,cxSteps,rfl,hxFixed,hxPerLeft,hxPerRight,hxPerOutput,hxPerPair,hxSteps⟩:=rOperator_rep.1 hx
 clear hx
 have hB:Below w.heap.size w w:=Below.refl _ _
 have hAx:=(Below.refl (World.heap (w)).size (w)).alloc (Nat.le_refl _) (.cells #[.int .i64 x.fFixed,.int .i64 x.fPerLeft,.int .i64 x.fPerRight,.int .i64 x.fPerOutput,.int .i64 x.fPerPair,.slice AxSteps nxSteps cxSteps] 26)
 replace hB:=hB.trans (hAx.mono hB.size)
 have bxx:=Bx.new (w) [.int .i64 x.fFixed,.int .i64 x.fPerLeft,.int .i64 x.fPerRight,.int .i64 x.fPerOutput,.int .i64 x.fPerPair,.slice AxSteps nxSteps cxSteps] 26
 clear hAx
 have hn:=hxSteps.bound
 obtain⟨wa,hwa⟩:∃ wa,wa=w.alloc (.cells #[.int .i64 x.fFixed,.int .i64 x.fPerLeft,.int .i64 x.fPerRight,.int .i64 x.fPerOutput,.int .i64 x.fPerPair,.slice AxSteps nxSteps cxSteps] 26):=⟨_,rfl⟩
 have bkX:=Bk.new w [.int .i64 x.fFixed,.int .i64 x.fPerLeft,.int .i64 x.fPerRight,.int .i64 x.fPerOutput,.int .i64 x.fPerPair,.slice AxSteps nxSteps cxSteps] 26
 replace bkX:Bk wa w.heap.size 26 [.int .i64 x.fFixed,.int .i64 x.fPerLeft,.int .i64 x.fPerRight,.int .i64 x.fPerOutput,.int .i64 x.fPerPair,.slice AxSteps nxSteps cxSteps]:=by rw [hwa];exact bkX
 rw [<- hwa]at hB
 clear bxx
 have hsa:wa.heap.size=w.heap.size+1:=by rw [hwa];simp
 have bkR:=Bk.new wa [.int .i64 0,.int .i64 0,.int .i64 0,.int .i64 0,.int .i64 0,.slice none 0 0] 26
 have hBA:=(Below.refl wa.heap.size wa).alloc (Nat.le_refl _) (.cells #[.int .i64 0,.int .i64 0,.int .i64 0,.int .i64 0,.int .i64 0,.slice none 0 0] 26)
 replace hB:=hB.trans (hBA.mono hB.size)
 replace bkX:=bkX.below hBA
 obtain⟨wb,hwb⟩:∃ wb,wb=wa.alloc (.cells #[.int .i64 0,.int .i64 0,.int .i64 0,.int .i64 0,.int .i64 0,.slice none 0 0] 26):=⟨_,rfl⟩
 have hwb':=hwb.symm
 replace bkR:Bk wb wa.heap.size 26 [.int .i64 0,.int .i64 0,.int .i64 0,.int .i64 0,.int .i64 0,.slice none 0 0]:=by rw [hwb];exact bkR
 rw [hwb']at hB bkX
 have hsb:wb.heap.size=w.heap.size+1+1:=by rw [hwb];simp [hsa]
 rw [hsa]at bkR
 clear hBA
 go_enter Try.func34,Try.ntmps34
 go_upto_region 1 with fail
 rw [<- hwa,hwb']
 clear hwa hwb hwb' hsa
 have hBc:=(Below.refl wb.heap.size wb).alloc (Nat.le_refl _) (.cells #[] 70)
 have hBx:=hB.trans (hBc.mono hB.size)
 have kx:=(bkX.below hBc).bx 5 _ rfl
 have kx0:=bkX.bx 5 _ rfl
 have HSB:=Lib.hid hsb
 have hlt:w.heap.size<wb.heap.size:=by omega
 clear hsb
 go_upto_region 2 with (at_builtin;refine wpList_appe (r:=rCostStep NB) (M:=NB) rfl _ _ 24 rfl _ 16 eiCostStep (rCostStep_ok NB) (rCostStep_flat NB) rfl (heap_alloc_new _ _) rfl (hxSteps.below (rCostStep_ok NB) hBx) hxSteps.nb (Nat.le_refl _) (by omega) ?_;intro A1 c1 w1 o1 g1 hb1;have bkX1:=(bkX.below hBc).below hb1;have bkR1:=(bkR.below hBc).below hb1;have q5:=bkX1.bx 5 _ rfl;have f5:=bkX1.frozen 5)
 have hgs:∀ k∈blk A1,w.heap.size+1+1<=k:=fun k hk=>by have h:=g1 k hk;simp only [World.size_alloc]at h;have:=HSB.out;omega
 have fr:Fr (w.heap.size+1+1) (blk A1):=⟨by cases A1<;>simp [blk],hgs⟩
 have hB1:=hBx.trans (hb1.mono hBx.size)
 clear hBc hBx kx kx0 hb1 q5 f5 g1
 have bkX2:=bkX1.set 5 (.slice A1 nxSteps c1)
 have bkR2:Bk (w1.setCell ⟨w.heap.size,5,none⟩ (.slice A1 nxSteps c1)) (w.heap.size+1) 26 [.int .i64 0,.int .i64 0,.int .i64 0,.int .i64 0,.int .i64 0,.slice none 0 0]:=(heap_setCell_other w1 ⟨w.heap.size,5,none⟩ (w.heap.size+1) _ (by simp)).trans bkR1
 have o2:=o1.out (rCostStep_ok NB) fr ((Out.refl _ _).setCell (p:=⟨w.heap.size,5,none⟩) (by simp;omega) (.slice A1 nxSteps c1))
 have hB2:=hB1.setCell (p:=⟨w.heap.size,5,none⟩) (Nat.le_refl _) (.slice A1 nxSteps c1)
 obtain⟨w2,hw2⟩:∃ w2,w2=w1.setCell ⟨w.heap.size,5,none⟩ (.slice A1 nxSteps c1):=⟨_,rfl⟩
 rw [<- hw2]at bkX2 bkR2 o2 hB2 ⊢
 clear hw2 bkX1 bkR1 o1 hB1
 have x0:=bkX2.bx 0 _ rfl
 have x1:=bkX2.bx 1 _ rfl
 have x2:=bkX2.bx 2 _ rfl
 have x3:=bkX2.bx 3 _ rfl
 have x4:=bkX2.bx 4 _ rfl
 have x5:=bkX2.bx 5 _ rfl
 have r0:=bkR2.bx 0 _ rfl
 have f0:=bkR2.frozen 0
 have r1:=bkR2.bx 1 _ rfl
 have f1:=bkR2.frozen 1
 have r2:=bkR2.bx 2 _ rfl
 have f2:=bkR2.frozen 2
 have r3:=bkR2.bx 3 _ rfl
 have f3:=bkR2.frozen 3
 have r4:=bkR2.bx 4 _ rfl
 have f4:=bkR2.frozen 4
 have r5:=bkR2.bx 5 _ rfl
 have f5:=bkR2.frozen 5
 go_wp2
 have bk3:=(((((bkR2.set 0 (.int .i64 x.fFixed)).set 1 (.int .i64 x.fPerLeft)).set 2 (.int .i64 x.fPerRight)).set 3 (.int .i64 x.fPerOutput)).set 4 (.int .i64 x.fPerPair)).set 5 (.slice A1 nxSteps c1)
 have q0:=bk3.bx 0 _ rfl
 have q1:=bk3.bx 1 _ rfl
 have q2:=bk3.bx 2 _ rfl
 have q3:=bk3.bx 3 _ rfl
 have q4:=bk3.bx 4 _ rfl
 have q5:=bk3.bx 5 _ rfl
 refine bodyPost_ret (v:=.agg #[.int .i64 x.fFixed,.int .i64 x.fPerLeft,.int .i64 x.fPerRight,.int .i64 x.fPerOutput,.int .i64 x.fPerPair,.slice A1 nxSteps c1]) (by simp [results,Try.results34,go_sem,q0,q1,q2,q3,q4,q5]) rfl ?_
 have hBf:=(((((hB2.setCell (p:=⟨w.heap.size+1,0,none⟩) (Nat.le_succ _) (.int .i64 x.fFixed)).setCell (p:=⟨w.heap.size+1,1,none⟩) (Nat.le_succ _) (.int .i64 x.fPerLeft)).setCell (p:=⟨w.heap.size+1,2,none⟩) (Nat.le_succ _) (.int .i64 x.fPerRight)).setCell (p:=⟨w.heap.size+1,3,none⟩) (Nat.le_succ _) (.int .i64 x.fPerOutput)).setCell (p:=⟨w.heap.size+1,4,none⟩) (Nat.le_succ _) (.int .i64 x.fPerPair)).setCell (p:=⟨w.heap.size+1,5,none⟩) (Nat.le_succ _) (.slice A1 nxSteps c1)
 have o3:=o2.out (rCostStep_ok NB) fr (((((((Out.refl (w.heap.size+1+1) w2).setCell (p:=⟨w.heap.size+1,0,none⟩) (Nat.lt_succ_self _) (.int .i64 x.fFixed)).setCell (p:=⟨w.heap.size+1,1,none⟩) (Nat.lt_succ_self _) (.int .i64 x.fPerLeft)).setCell (p:=⟨w.heap.size+1,2,none⟩) (Nat.lt_succ_self _) (.int .i64 x.fPerRight)).setCell (p:=⟨w.heap.size+1,3,none⟩) (Nat.lt_succ_self _) (.int .i64 x.fPerOutput)).setCell (p:=⟨w.heap.size+1,4,none⟩) (Nat.lt_succ_self _) (.int .i64 x.fPerPair)).setCell (p:=⟨w.heap.size+1,5,none⟩) (Nat.lt_succ_self _) (.slice A1 nxSteps c1))
 exact RetV.mkOp hxFixed hxPerLeft hxPerRight hxPerOutput hxPerPair o3 (fr.mono (by omega)) hBf
theorem RetVB.mkOp {o:OperatorD}{v:Value}{w w':World}{A:Option Addr}{n c:Nat}{f:List Nat}(h1:I64 o.fFixed) (h2:I64 o.fPerLeft) (h3:I64 o.fPerRight) (h4:I64 o.fPerOutput) (h5:I64 o.fPerPair) (hs:OS NB 70 (rCostStep NB) w' f A n c o.fSteps) (hf:Fr w.heap.size f) (hb:Below w.heap.size w w'):RetVB (rOperator NB) o v w (.returned (.tuple #[.agg #[.int .i64 o.fFixed,.int .i64 o.fPerLeft,.int .i64 o.fPerRight,.int .i64 o.fPerOutput,.int .i64 o.fPerPair,.slice A n c],v])) w':=⟨_,f,rfl,rOperator_own.2 ⟨A,n,c,f,rfl,rfl,h1,h2,h3,h4,h5,hs⟩,hf,hb⟩
def modelOp (x:ModelD) (k:Int):OperatorD × Bool:=if inR k 1 5 then (opOf x k,true) else (⟨0,0,0,0,0,[]⟩,false)
set_option maxRecDepth 100000 in
set_option maxHeartbeats 12800000 in
theorem iModelOperator_c (csx:List Value) (x:ModelD) (k:Int) (w:World) (hx:(rModel NB).rep w csx x) :
  Calls Try.prog 16 #[.agg csx.toArray,.int .i64 k] w (RetVB (rOperator NB) (modelOp x k).1 (.bool (modelOp x k).2) w):=by
 have rx:=hx
 obtain⟨AxScanSteps,nxScanSteps,cxScanSteps,AxSortSteps,nxSortSteps,cxSortSteps,AxHashSteps,nxHashSteps,cxHashSteps,AxMergeSteps,nxMergeSteps,cxMergeSteps,AxNestedSteps,nxNestedSteps,cxNestedSteps,rfl,hxScanFixed,hxScanPerLeft,hxScanPerRight,hxScanPerOutput,hxScanPerPair,hxScanSteps,hxSortFixed,hxSortPerLeft,hxSortPerRight,hxSortPerOutput,hxSortPerPair,hxSortSteps,hxHashFixed,hxHashPerLeft,hxHashPerRight,hxHashPerOutput,hxHashPerPair,hxHashSteps,hxMergeFixed,hxMergePerLeft,hxMergePerRight,hxMergePerOutput,hxMergePerPair,hxMergeSteps,hxNestedFixed,hxNestedPerLeft,hxNestedPerRight,hxNestedPerOutput,hxNestedPerPair,hxNestedSteps⟩:=rModel_rep.1 hx
 clear hx
 have hB:Below w.heap.size w w:=Below.refl _ _
 have hAx:=(Below.refl (World.heap (w)).size (w)).alloc (Nat.le_refl _) (.cells #[.int .i64 x.fScan.fFixed,.int .i64 x.fScan.fPerLeft,.int .i64 x.fScan.fPerRight,.int .i64 x.fScan.fPerOutput,.int .i64 x.fScan.fPerPair,.slice AxScanSteps nxScanSteps cxScanSteps,.int .i64 x.fSort.fFixed,.int .i64 x.fSort.fPerLeft,.int .i64 x.fSort.fPerRight,.int .i64 x.fSort.fPerOutput,.int .i64 x.fSort.fPerPair,.slice AxSortSteps nxSortSteps cxSortSteps,.int .i64 x.fHash.fFixed,.int .i64 x.fHash.fPerLeft,.int .i64 x.fHash.fPerRight,.int .i64 x.fHash.fPerOutput,.int .i64 x.fHash.fPerPair,.slice AxHashSteps nxHashSteps cxHashSteps,.int .i64 x.fMerge.fFixed,.int .i64 x.fMerge.fPerLeft,.int .i64 x.fMerge.fPerRight,.int .i64 x.fMerge.fPerOutput,.int .i64 x.fMerge.fPerPair,.slice AxMergeSteps nxMergeSteps cxMergeSteps,.int .i64 x.fNested.fFixed,.int .i64 x.fNested.fPerLeft,.int .i64 x.fNested.fPerRight,.int .i64 x.fNested.fPerOutput,.int .i64 x.fNested.fPerPair,.slice AxNestedSteps nxNestedSteps cxNestedSteps] 28)
 replace hB:=hB.trans (hAx.mono hB.size)
 have bxx:=Bx.new (w) [.int .i64 x.fScan.fFixed,.int .i64 x.fScan.fPerLeft,.int .i64 x.fScan.fPerRight,.int .i64 x.fScan.fPerOutput,.int .i64 x.fScan.fPerPair,.slice AxScanSteps nxScanSteps cxScanSteps,.int .i64 x.fSort.fFixed,.int .i64 x.fSort.fPerLeft,.int .i64 x.fSort.fPerRight,.int .i64 x.fSort.fPerOutput,.int .i64 x.fSort.fPerPair,.slice AxSortSteps nxSortSteps cxSortSteps,.int .i64 x.fHash.fFixed,.int .i64 x.fHash.fPerLeft,.int .i64 x.fHash.fPerRight,.int .i64 x.fHash.fPerOutput,.int .i64 x.fHash.fPerPair,.slice AxHashSteps nxHashSteps cxHashSteps,.int .i64 x.fMerge.fFixed,.int .i64 x.fMerge.fPerLeft,.int .i64 x.fMerge.fPerRight,.int .i64 x.fMerge.fPerOutput,.int .i64 x.fMerge.fPerPair,.slice AxMergeSteps nxMergeSteps cxMergeSteps,.int .i64 x.fNested.fFixed,.int .i64 x.fNested.fPerLeft,.int .i64 x.fNested.fPerRight,.int .i64 x.fNested.fPerOutput,.int .i64 x.fNested.fPerPair,.slice AxNestedSteps nxNestedSteps cxNestedSteps] 28
 clear hAx
 obtain⟨wa,hwa⟩:∃ wa,wa=w.alloc (.cells #[.int .i64 x.fScan.fFixed,.int .i64 x.fScan.fPerLeft,.int .i64 x.fScan.fPerRight,.int .i64 x.fScan.fPerOutput,.int .i64 x.fScan.fPerPair,.slice AxScanSteps nxScanSteps cxScanSteps,.int .i64 x.fSort.fFixed,.int .i64 x.fSort.fPerLeft,.int .i64 x.fSort.fPerRight,.int .i64 x.fSort.fPerOutput,.int .i64 x.fSort.fPerPair,.slice AxSortSteps nxSortSteps cxSortSteps,.int .i64 x.fHash.fFixed,.int .i64 x.fHash.fPerLeft,.int .i64 x.fHash.fPerRight,.int .i64 x.fHash.fPerOutput,.int .i64 x.fHash.fPerPair,.slice AxHashSteps nxHashSteps cxHashSteps,.int .i64 x.fMerge.fFixed,.int .i64 x.fMerge.fPerLeft,.int .i64 x.fMerge.fPerRight,.int .i64 x.fMerge.fPerOutput,.int .i64 x.fMerge.fPerPair,.slice AxMergeSteps nxMergeSteps cxMergeSteps,.int .i64 x.fNested.fFixed,.int .i64 x.fNested.fPerLeft,.int .i64 x.fNested.fPerRight,.int .i64 x.fNested.fPerOutput,.int .i64 x.fNested.fPerPair,.slice AxNestedSteps nxNestedSteps cxNestedSteps] 28):=⟨_,rfl⟩
 rw [<- hwa]at hB bxx
 have hsa:w.heap.size+1=wa.heap.size:=by rw [hwa];simp
 have hBA:=(Below.refl wa.heap.size wa).alloc (Nat.le_refl _) (.cells #[.int .i64 0,.int .i64 0,.int .i64 0,.int .i64 0,.int .i64 0,.slice none 0 0] 26)
 have bkR:=Bk.new wa [.int .i64 0,.int .i64 0,.int .i64 0,.int .i64 0,.int .i64 0,.slice none 0 0] 26
 replace hB:=hB.trans (hBA.mono hB.size)
 replace bxx:=bxx.below hBA
 clear hBA
 rw [<- hsa]at bkR
 obtain⟨wb,hwb⟩:∃ wb,wb=wa.alloc (.cells #[.int .i64 0,.int .i64 0,.int .i64 0,.int .i64 0,.int .i64 0,.slice none 0 0] 26):=⟨_,rfl⟩
 have hwb':=hwb.symm
 rw [hwb']at hB bxx bkR
 clear hsa
 go_enter Try.func16,Try.ntmps16
 go_upto_region 1 with fail
 rw [<- hwa,hwb']
 clear hwa hwb hwb'
 cases hk:inR k 1 5
 ·have HM:Hid (modelOp x k=(⟨0,0,0,0,0,[]⟩,false)):=by show modelOp x k=_;rw [modelOp,hk];rfl
  have r0:=bkR.bx 0 _ rfl
  have f0:=bkR.frozen 0
  have r1:=bkR.bx 1 _ rfl
  have f1:=bkR.frozen 1
  have r2:=bkR.bx 2 _ rfl
  have f2:=bkR.frozen 2
  have r3:=bkR.bx 3 _ rfl
  have f3:=bkR.frozen 3
  have r4:=bkR.bx 4 _ rfl
  have f4:=bkR.frozen 4
  have r5:=bkR.bx 5 _ rfl
  have f5:=bkR.frozen 5
  go_wp2_with (go_at_call 18;refine(within_v hk _).mono ?_;rintro e w' ⟨rfl,rfl⟩)
  have bk3:=(((((bkR.set 0 (.int .i64 0)).set 1 (.int .i64 0)).set 2 (.int .i64 0)).set 3 (.int .i64 0)).set 4 (.int .i64 0)).set 5 (.slice none 0 0)
  have q0:=bk3.bx 0 _ rfl
  have q1:=bk3.bx 1 _ rfl
  have q2:=bk3.bx 2 _ rfl
  have q3:=bk3.bx 3 _ rfl
  have q4:=bk3.bx 4 _ rfl
  have q5:=bk3.bx 5 _ rfl
  refine bodyPost_ret (v:=.tuple #[.agg #[.int .i64 0,.int .i64 0,.int .i64 0,.int .i64 0,.int .i64 0,.slice none 0 0],.bool false]) (by simp [results,Try.results16,go_sem,q0,q1,q2,q3,q4,q5]) rfl ?_
  have hBf:=(((((hB.setCell (p:=⟨w.heap.size+1,0,none⟩) (Nat.le_succ _) (.int .i64 0)).setCell (p:=⟨w.heap.size+1,1,none⟩) (Nat.le_succ _) (.int .i64 0)).setCell (p:=⟨w.heap.size+1,2,none⟩) (Nat.le_succ _) (.int .i64 0)).setCell (p:=⟨w.heap.size+1,3,none⟩) (Nat.le_succ _) (.int .i64 0)).setCell (p:=⟨w.heap.size+1,4,none⟩) (Nat.le_succ _) (.int .i64 0)).setCell (p:=⟨w.heap.size+1,5,none⟩) (Nat.le_succ _) (.slice none 0 0)
  rw [HM.out]
  exact RetVB.mkOp I64_zero I64_zero I64_zero I64_zero I64_zero (f:=[]) ⟨rfl,Nat.zero_le _,[],[],World.ownsRow_nil _ 0 _ _,rfl,trivial⟩ (Fr.nil _) hBf
 have hk5:=inR_t.1 hk
 have HM:Hid (modelOp x k=(opOf x k,true)):=by show modelOp x k=_;rw [modelOp,hk];rfl
 have hj5:k.toNat - 1<5:=by omega
 have HOP:Hid ((modelOps x)[k.toNat - 1]?=some (opOf x k)):=Lib.hid (by have:=opOf_at x hj5;rwa [show((k.toNat - 1:Nat):Int)+1=k by omega]at this)
 have K:=Lib.hid (fun W=>within_v hk W);clear hk
 go_wp2_with (go_at_call 18;refine(K.out _).mono ?_;rintro e w' ⟨rfl,rfl⟩)
 refine(iOperators_c _ 0 _).mono ?_
 rintro e w1 ⟨rfl,bxp,hb1⟩
 replace hB:=hB.trans (hb1.mono hB.size)
 replace bxx:=bxx.below hb1
 replace bkR:=bkR.below hb1
 clear hb1
 have hz1:=bkR.lt
 obtain⟨o,A,n,c,Ho,hO⟩:=modelAt rx hB bxx hj5
 have heq:o=opOf x k:=by have:=Ho.out;rw [HOP.out]at this;injection this with this;exact this.symm
 have HEQ:=Lib.hid heq;clear heq Ho
 have kp:=ptr_at6 bxp hj5
 have o0:=hO.c0
 have o1:=hO.c1
 have o2:=hO.c2
 have o3:=hO.c3
 have o4:=hO.c4
 have o5:=hO.c5
 go_wp2_with fail
 refine(iCopyOperator_c _ o _ hO.rep).mono ?_
 rintro e w2 ⟨cs2,f2,rfl,own2,fr2,hb2⟩
 replace hB:=hB.trans (hb2.mono hB.size)
 replace bxx:=bxx.below hb2
 replace bkR:=bkR.below hb2
 clear hb2 kp o0 o1 o2 o3 o4 o5 bxp
 obtain⟨A2,n2,c2,g2,rfl,rfl,j1,j2,j3,j4,j5,os2⟩:=rOperator_own.1 own2
 clear own2
 have r0:=bkR.bx 0 _ rfl
 have f0:=bkR.frozen 0
 have r1:=bkR.bx 1 _ rfl
 have f1:=bkR.frozen 1
 have r2:=bkR.bx 2 _ rfl
 have f2:=bkR.frozen 2
 have r3:=bkR.bx 3 _ rfl
 have f3:=bkR.frozen 3
 have r4:=bkR.bx 4 _ rfl
 have f4:=bkR.frozen 4
 have r5:=bkR.bx 5 _ rfl
 have f5:=bkR.frozen 5
 go_wp2
 have bk3:=(((((bkR.set 0 (.int .i64 o.fFixed)).set 1 (.int .i64 o.fPerLeft)).set 2 (.int .i64 o.fPerRight)).set 3 (.int .i64 o.fPerOutput)).set 4 (.int .i64 o.fPerPair)).set 5 (.slice A2 n2 c2)
 have q0:=bk3.bx 0 _ rfl
 have q1:=bk3.bx 1 _ rfl
 have q2:=bk3.bx 2 _ rfl
 have q3:=bk3.bx 3 _ rfl
 have q4:=bk3.bx 4 _ rfl
 have q5:=bk3.bx 5 _ rfl
 refine bodyPost_ret (v:=.tuple #[.agg #[.int .i64 o.fFixed,.int .i64 o.fPerLeft,.int .i64 o.fPerRight,.int .i64 o.fPerOutput,.int .i64 o.fPerPair,.slice A2 n2 c2],.bool true]) (by simp [results,Try.results16,go_sem,q0,q1,q2,q3,q4,q5]) rfl ?_
 have hBf:=(((((hB.setCell (p:=⟨w.heap.size+1,0,none⟩) (Nat.le_succ _) (.int .i64 o.fFixed)).setCell (p:=⟨w.heap.size+1,1,none⟩) (Nat.le_succ _) (.int .i64 o.fPerLeft)).setCell (p:=⟨w.heap.size+1,2,none⟩) (Nat.le_succ _) (.int .i64 o.fPerRight)).setCell (p:=⟨w.heap.size+1,3,none⟩) (Nat.le_succ _) (.int .i64 o.fPerOutput)).setCell (p:=⟨w.heap.size+1,4,none⟩) (Nat.le_succ _) (.int .i64 o.fPerPair)).setCell (p:=⟨w.heap.size+1,5,none⟩) (Nat.le_succ _) (.slice A2 n2 c2)
 have o3:=os2.out (rCostStep_ok NB) fr2 (((((((Out.refl (w1.heap.size) w2).setCell (p:=⟨w.heap.size+1,0,none⟩) (hz1) (.int .i64 o.fFixed)).setCell (p:=⟨w.heap.size+1,1,none⟩) (hz1) (.int .i64 o.fPerLeft)).setCell (p:=⟨w.heap.size+1,2,none⟩) (hz1) (.int .i64 o.fPerRight)).setCell (p:=⟨w.heap.size+1,3,none⟩) (hz1) (.int .i64 o.fPerOutput)).setCell (p:=⟨w.heap.size+1,4,none⟩) (hz1) (.int .i64 o.fPerPair)).setCell (p:=⟨w.heap.size+1,5,none⟩) (hz1) (.slice A2 n2 c2))
 rw [HM.out]
 show RetVB (rOperator NB) (opOf x k) (.bool true) w _ _
 rw [<- HEQ.out]
 exact RetVB.mkOp j1 j2 j3 j4 j5 o3 (fr2.mono (by omega)) hBf
set_option maxRecDepth 100000 in
set_option maxHeartbeats 1600000 in
theorem iStepAllowance_c (csx:List Value) (x:ModelD) (k:Int) (l:Int) (r:Int) (b:Int) (w:World) (hx:(rModel NB).rep w csx x) :
  Calls Try.prog 6 #[.agg csx.toArray,.int .i64 k,.int .i64 l,.int .i64 r,.int .i64 b] w fun e w'=>e=.returned (.int .i64 (stepAllow x k l r b))/\Below w.heap.size w w':=by
 have rx:=hx
 obtain⟨AxScanSteps,nxScanSteps,cxScanSteps,AxSortSteps,nxSortSteps,cxSortSteps,AxHashSteps,nxHashSteps,cxHashSteps,AxMergeSteps,nxMergeSteps,cxMergeSteps,AxNestedSteps,nxNestedSteps,cxNestedSteps,rfl,hxScanFixed,hxScanPerLeft,hxScanPerRight,hxScanPerOutput,hxScanPerPair,hxScanSteps,hxSortFixed,hxSortPerLeft,hxSortPerRight,hxSortPerOutput,hxSortPerPair,hxSortSteps,hxHashFixed,hxHashPerLeft,hxHashPerRight,hxHashPerOutput,hxHashPerPair,hxHashSteps,hxMergeFixed,hxMergePerLeft,hxMergePerRight,hxMergePerOutput,hxMergePerPair,hxMergeSteps,hxNestedFixed,hxNestedPerLeft,hxNestedPerRight,hxNestedPerOutput,hxNestedPerPair,hxNestedSteps⟩:=rModel_rep.1 hx
 clear hx
 have hB:Below w.heap.size w w:=Below.refl _ _
 have hAx:=(Below.refl (World.heap (w)).size (w)).alloc (Nat.le_refl _) (.cells #[.int .i64 x.fScan.fFixed,.int .i64 x.fScan.fPerLeft,.int .i64 x.fScan.fPerRight,.int .i64 x.fScan.fPerOutput,.int .i64 x.fScan.fPerPair,.slice AxScanSteps nxScanSteps cxScanSteps,.int .i64 x.fSort.fFixed,.int .i64 x.fSort.fPerLeft,.int .i64 x.fSort.fPerRight,.int .i64 x.fSort.fPerOutput,.int .i64 x.fSort.fPerPair,.slice AxSortSteps nxSortSteps cxSortSteps,.int .i64 x.fHash.fFixed,.int .i64 x.fHash.fPerLeft,.int .i64 x.fHash.fPerRight,.int .i64 x.fHash.fPerOutput,.int .i64 x.fHash.fPerPair,.slice AxHashSteps nxHashSteps cxHashSteps,.int .i64 x.fMerge.fFixed,.int .i64 x.fMerge.fPerLeft,.int .i64 x.fMerge.fPerRight,.int .i64 x.fMerge.fPerOutput,.int .i64 x.fMerge.fPerPair,.slice AxMergeSteps nxMergeSteps cxMergeSteps,.int .i64 x.fNested.fFixed,.int .i64 x.fNested.fPerLeft,.int .i64 x.fNested.fPerRight,.int .i64 x.fNested.fPerOutput,.int .i64 x.fNested.fPerPair,.slice AxNestedSteps nxNestedSteps cxNestedSteps] 28)
 replace hB:=hB.trans (hAx.mono hB.size)
 have bxx:=Bx.new (w) [.int .i64 x.fScan.fFixed,.int .i64 x.fScan.fPerLeft,.int .i64 x.fScan.fPerRight,.int .i64 x.fScan.fPerOutput,.int .i64 x.fScan.fPerPair,.slice AxScanSteps nxScanSteps cxScanSteps,.int .i64 x.fSort.fFixed,.int .i64 x.fSort.fPerLeft,.int .i64 x.fSort.fPerRight,.int .i64 x.fSort.fPerOutput,.int .i64 x.fSort.fPerPair,.slice AxSortSteps nxSortSteps cxSortSteps,.int .i64 x.fHash.fFixed,.int .i64 x.fHash.fPerLeft,.int .i64 x.fHash.fPerRight,.int .i64 x.fHash.fPerOutput,.int .i64 x.fHash.fPerPair,.slice AxHashSteps nxHashSteps cxHashSteps,.int .i64 x.fMerge.fFixed,.int .i64 x.fMerge.fPerLeft,.int .i64 x.fMerge.fPerRight,.int .i64 x.fMerge.fPerOutput,.int .i64 x.fMerge.fPerPair,.slice AxMergeSteps nxMergeSteps cxMergeSteps,.int .i64 x.fNested.fFixed,.int .i64 x.fNested.fPerLeft,.int .i64 x.fNested.fPerRight,.int .i64 x.fNested.fPerOutput,.int .i64 x.fNested.fPerPair,.slice AxNestedSteps nxNestedSteps cxNestedSteps] 28
 clear hAx
 go_enter Try.func6,Try.ntmps6
 go_wp2_with (refine wpList_load_mid rfl 28 _ rfl w.heap.size 0 rfl [.int .i64 x.fScan.fFixed,.int .i64 x.fScan.fPerLeft,.int .i64 x.fScan.fPerRight,.int .i64 x.fScan.fPerOutput,.int .i64 x.fScan.fPerPair,.slice AxScanSteps nxScanSteps cxScanSteps,.int .i64 x.fSort.fFixed,.int .i64 x.fSort.fPerLeft,.int .i64 x.fSort.fPerRight,.int .i64 x.fSort.fPerOutput,.int .i64 x.fSort.fPerPair,.slice AxSortSteps nxSortSteps cxSortSteps,.int .i64 x.fHash.fFixed,.int .i64 x.fHash.fPerLeft,.int .i64 x.fHash.fPerRight,.int .i64 x.fHash.fPerOutput,.int .i64 x.fHash.fPerPair,.slice AxHashSteps nxHashSteps cxHashSteps,.int .i64 x.fMerge.fFixed,.int .i64 x.fMerge.fPerLeft,.int .i64 x.fMerge.fPerRight,.int .i64 x.fMerge.fPerOutput,.int .i64 x.fMerge.fPerPair,.slice AxMergeSteps nxMergeSteps cxMergeSteps,.int .i64 x.fNested.fFixed,.int .i64 x.fNested.fPerLeft,.int .i64 x.fNested.fPerRight,.int .i64 x.fNested.fPerOutput,.int .i64 x.fNested.fPerPair,.slice AxNestedSteps nxNestedSteps cxNestedSteps] _ bxx.range Try.underlying28 rfl sizeModel ?_)
 refine(iModelOperator_c _ x k _ ((rModel_ok NB).keep rx (cells_below hB))).mono ?_
 rintro e w1 ⟨cs1,f1,rfl,own1,fr1,hb1⟩
 replace hB:=hB.trans (hb1.mono hB.size)
 replace bxx:=bxx.below hb1
 clear hb1
 have HM:Hid (modelOp x k=if inR k 1 5 then (opOf x k,true) else (⟨0,0,0,0,0,[]⟩,false)):=Lib.hid rfl
 have own1r:=(rOperator_ok NB).toRep own1
 clear own1 fr1
 obtain⟨A1,n1,c1,rfl,j1,j2,j3,j4,j5,os1⟩:=rOperator_rep.1 own1r
 have ro:=own1r;clear own1r
 cases hk:inR k 1 5
 ·rw [hk]at HM
  have HF:Hid (stepAllow x k l r b=0):=by show stepAllow x k l r b=0;simp [stepAllow,hk]
  rw [HM.out]
  go_wp2
  go_ret
  exact⟨ret_int (a:=0) HF.out.symm,hB.alloc hB.size _⟩
 rw [hk]at HM
 have HM1:Hid ((modelOp x k).1=opOf x k):=Lib.hid (by rw [HM.out];rfl)
 have HM2:Hid ((modelOp x k).2=true):=Lib.hid (by rw [HM.out];rfl)
 rw [HM1.out]at ro os1 j1 j2 j3 j4 j5
 rw [HM1.out,HM2.out]
 clear HM HM1 HM2
 have HK:=Lib.hid hk;clear hk
 have HOM:=Lib.hid (opOf_mem x k)
 generalize hop:opOf x k=o at ro os1 j1 j2 j3 j4 j5 HOM
 have Hop:=Lib.hid hop;clear hop
 have bxo:=Bx.new w1 [.int .i64 o.fFixed,.int .i64 o.fPerLeft,.int .i64 o.fPerRight,.int .i64 o.fPerOutput,.int .i64 o.fPerPair,.slice A1 n1 c1] 26
 have hBo:=(Below.refl w1.heap.size w1).alloc (Nat.le_refl _) (.cells #[.int .i64 o.fFixed,.int .i64 o.fPerLeft,.int .i64 o.fPerRight,.int .i64 o.fPerOutput,.int .i64 o.fPerPair,.slice A1 n1 c1] 26)
 go_upto_region 2 with fail
 replace hB:=hB.trans (hBo.mono hB.size)
 replace bxx:=bxx.below hBo
 replace ro:=(rOperator_ok NB).keep ro (cells_below hBo)
 clear hBo
 iterate 10 go_step
 refine wpList_load_midW 28 _ rfl w.heap.size 0 rfl [.int .i64 x.fScan.fFixed,.int .i64 x.fScan.fPerLeft,.int .i64 x.fScan.fPerRight,.int .i64 x.fScan.fPerOutput,.int .i64 x.fScan.fPerPair,.slice AxScanSteps nxScanSteps cxScanSteps,.int .i64 x.fSort.fFixed,.int .i64 x.fSort.fPerLeft,.int .i64 x.fSort.fPerRight,.int .i64 x.fSort.fPerOutput,.int .i64 x.fSort.fPerPair,.slice AxSortSteps nxSortSteps cxSortSteps,.int .i64 x.fHash.fFixed,.int .i64 x.fHash.fPerLeft,.int .i64 x.fHash.fPerRight,.int .i64 x.fHash.fPerOutput,.int .i64 x.fHash.fPerPair,.slice AxHashSteps nxHashSteps cxHashSteps,.int .i64 x.fMerge.fFixed,.int .i64 x.fMerge.fPerLeft,.int .i64 x.fMerge.fPerRight,.int .i64 x.fMerge.fPerOutput,.int .i64 x.fMerge.fPerPair,.slice AxMergeSteps nxMergeSteps cxMergeSteps,.int .i64 x.fNested.fFixed,.int .i64 x.fNested.fPerLeft,.int .i64 x.fNested.fPerRight,.int .i64 x.fNested.fPerOutput,.int .i64 x.fNested.fPerPair,.slice AxNestedSteps nxNestedSteps cxNestedSteps] _ bxx.range Try.underlying28 rfl sizeModel ?_ ?_
 ·simp [Region.wanted,yielded]
 go_wp2_with fail
 refine(iIsAdmitted_c _ x _ ((rModel_ok NB).keep rx (cells_below hB))).mono ?_
 rintro e w2 ⟨rfl,hb2⟩
 replace hB:=hB.trans (hb2.mono hB.size)
 replace bxx:=bxx.below hb2
 replace ro:=(rOperator_ok NB).keep ro (cells_below hb2)
 replace bxo:=bxo.below hb2
 clear hb2
 cases ha:admitted x
 ·go_wp2
  go_ret
  exact⟨ret_int (a:=0) (by simp [stepAllow,ha]),hB⟩
 have HV:=Lib.hid (admitted_valid ha HOM.out)
 have HAd:=Lib.hid ha;clear ha
 cases hl:inR l 0 4096
 ·have HF:Hid (stepAllow x k l r b=0):=by show stepAllow x k l r b=0;simp [stepAllow,hl]
  have K2:=Lib.hid (fun W=>within_v hl W);clear hl
  go_wp2_with (go_at_call_of 18 (Value.int IntKind.i64 l);refine(K2.out _).mono ?_;rintro e w' ⟨rfl,rfl⟩)
  go_ret
  exact⟨ret_int (a:=0) HF.out.symm,hB⟩
 have K2:=Lib.hid (fun W=>within_v hl W)
 cases hr:inR r 0 4096
 ·have HF:Hid (stepAllow x k l r b=0):=by show stepAllow x k l r b=0;simp [stepAllow,hr]
  have K3:=Lib.hid (fun W=>within_v hr W);clear hr hl
  go_wp2_with (first|(go_at_call_of 18 (Value.int IntKind.i64 l);refine(K2.out _).mono ?_;rintro e w' ⟨rfl,rfl⟩)|(go_at_call_of 18 (Value.int IntKind.i64 r);refine(K3.out _).mono ?_;rintro e w' ⟨rfl,rfl⟩))
  go_ret
  exact⟨ret_int (a:=0) HF.out.symm,hB⟩
 have K3:=Lib.hid (fun W=>within_v hr W)
 have HF:Hid (stepAllow x k l r b=allow o l r b):=by show stepAllow x k l r b=_;simp [stepAllow,HAd.out,HK.out,hl,hr,Hop.out]
 have HL:=Lib.hid (inR_t.1 hl)
 have HR:=Lib.hid (inR_t.1 hr)
 clear hl hr
 have ko_0:=bxo 0 _ rfl
 have ko_1:=bxo 1 _ rfl
 have ko_2:=bxo 2 _ rfl
 have ko_3:=bxo 3 _ rfl
 have ko_4:=bxo 4 _ rfl
 have ko_5:=bxo 5 _ rfl
 go_wp2_with (first|(go_at_call_of 18 (Value.int IntKind.i64 l);refine(K2.out _).mono ?_;rintro e w' ⟨rfl,rfl⟩)|(go_at_call_of 18 (Value.int IntKind.i64 r);refine(K3.out _).mono ?_;rintro e w' ⟨rfl,rfl⟩))
 refine(iAllowance_c _ o l r b _ ro HV.out HL.out HR.out).mono ?_
 rintro e w9 ⟨rfl,hb9⟩
 go_wp2
 go_ret
 exact⟨ret_int HF.out.symm,hB.trans (hb9.mono hB.size)⟩
end Go.Proofs.Ytjckbnmbhgikjaa
namespace Go.Proofs.Ytjckbnmbhgikjaa
open Go.RowKit
set_option linter.unusedVariables false
set_option linter.unusedSimpArgs false
/-- no decrease: the output's coefficient is no debt -/
theorem out_pos {o:OperatorD}(h:hasDec o=false):0<=o.fPerOutput:=by
 unfold hasDec at h
 simp only [Bool.not_eq_false']at h
 have h0:=List.all_eq_true.1 h 0 (List.mem_range.2 (by omega))
 simp only [decT,Bool.not_not]at h0
 have h2:=List.all_eq_true.1 h0 2 (List.mem_range.2 (by omega))
 have e:trip 0=[0,0,0]:=by decide
 rw [e]at h2
 simp only [decAt,Bool.not_eq_true',List.getElem?_cons_succ,List.getElem?_cons_zero,List.set_cons_succ,List.set_cons_zero]at h2
 simp only [costL,opCost,opBase,clsSize,Bool.and_eq_false_iff,decide_eq_false_iff_not]at h2
 rcases h2 with h2|h2
 ·omega
 ·simp at h2;omega
theorem payB_down {o:OperatorD}(h:0<=o.fPerOutput) (l r b:Int) {j:Nat}(hj:j<7) (hp:payB o l r b (j+1)=true):payB o l r b j=true:=by
 unfold payB at hp ⊢
 have hp:=of_decide_eq_true hp
 refine decide_eq_true ?_
 unfold opCost opBase at hp ⊢
 have hc:clsSize (j:Int)<=clsSize ((j+1:Nat):Int):=by
  have:j=0\/j=1\/j=2\/j=3\/j=4\/j=5\/j=6:=by omega
  rcases this with rfl|rfl|rfl|rfl|rfl|rfl|rfl<;>decide
 have:=Int.mul_le_mul_of_nonneg_left hc h
 omega
theorem down_le {p:Nat->Bool}(hm:∀ j,j<7->p (j+1)=true->p j=true) {k:Nat}(hk:k<8) (hp:p k=true):∀ j,j<=k->p j=true:=by
 induction k with
 | zero=>intro j hj;have e:j=0:=Nat.le_zero.1 hj;rw [e];exact hp
 | succ k ih =>
  intro j hj
  by_cases e:j=k+1
  ·rw [e];exact hp
  ·exact ih (by omega) (hm k (by omega) hp) j (by omega)
theorem allowN_iff {p:Nat->Bool}(hm:∀ j,j<7->p (j+1)=true->p j=true) {k:Nat}(hk:k<8):p k=decide (k<allowN p):=by
 cases hp:p k with
 | true =>
  have hd:=down_le hm hk hp
  symm;rw [decide_eq_true_eq]
  have h1:∀ n,n<=k+1->(List.range n).all p=true:=fun n hn=>List.all_eq_true.2 fun j hj=>hd j (by have:=List.mem_range.1 hj;omega)
  refine Classical.byContradiction fun hn=>?_
  have hle:=allowN_le p
  -- the first class that is not paid
  by_cases hall:(List.range 8).all p=true
  ·rw [allowN_all hall]at hn;omega
  ·have:∃ m,m<8/\(List.range m).all p=true/\p m=false:=by
    have key:∀ n,n<=8->(List.range n).all p=true\/∃ m,m<n/\(List.range m).all p=true/\p m=false:=by
     intro n
     induction n with
     | zero=>intro _;exact .inl rfl
     | succ n ih =>
      intro h8
      rcases ih (by omega) with h|⟨m,a,b,c⟩
      ·cases hpn:p n with
       | true=>exact .inl (rangeAll_snoc h hpn)
       | false=>exact .inr ⟨n,by omega,h,hpn⟩
      ·exact .inr ⟨m,by omega,b,c⟩
    rcases key 8 (Nat.le_refl _) with h|h
    ·exact absurd h hall
    ·exact h
   obtain⟨m,m8,ma,mf⟩:=this
   rw [allowN_stop ma m8 mf]at hn
   have:=hd m (by omega)
   rw [mf]at this;cases this
 | false =>
  symm;rw [decide_eq_false_iff_not]
  intro hlt
  by_cases hall:(List.range 8).all p=true
  ·have:=List.all_eq_true.1 hall k (List.mem_range.2 hk)
   rw [hp]at this;cases this
  ·have:∃ m,m<8/\(List.range m).all p=true/\p m=false:=by
    have key:∀ n,n<=8->(List.range n).all p=true\/∃ m,m<n/\(List.range m).all p=true/\p m=false:=by
     intro n
     induction n with
     | zero=>intro _;exact .inl rfl
     | succ n ih =>
      intro h8
      rcases ih (by omega) with h|⟨m,a,b,c⟩
      ·cases hpn:p n with
       | true=>exact .inl (rangeAll_snoc h hpn)
       | false=>exact .inr ⟨n,by omega,h,hpn⟩
      ·exact .inr ⟨m,by omega,b,c⟩
    rcases key 8 (Nat.le_refl _) with h|h
    ·exact absurd h hall
    ·exact h
   obtain⟨m,m8,ma,mf⟩:=this
   rw [allowN_stop ma m8 mf]at hlt
   have:=List.all_eq_true.1 ma k (List.mem_range.2 hlt)
   rw [hp]at this;cases this
/-- what the law asks of a step whose model is admitted and whose sizes are in range -/
theorem allow_law {m:ModelD}{k l r b:Int}(hk:inR k 1 5=true) (hm:admitted m=true) (hl:inR l 0 4096=true) (hr:inR r 0 4096=true) {j:Nat}(hj:j<8) :
  decide (opCostV (opOf m k) l r (clsSize (j:Int))<=b)=decide ((j:Int)<stepAllow m k l r b):=by
 have hok:opOk (opOf m k)=true:=List.all_eq_true.1 hm _ (opOf_mem m k)
 simp only [opOk,Bool.and_eq_true,Bool.not_eq_true']at hok
 obtain⟨⟨hv,hd⟩,_⟩:=hok
 have hc:=clsSize_bd (k:=(j:Int)) (by omega) (by omega)
 have e1:opCostV (opOf m k) l r (clsSize (j:Int))=opCost (opOf m k) l r (clsSize (j:Int)):=by unfold opCostV;rw [hv,hl,hr,inR_t.2 hc];rfl
 have e2:stepAllow m k l r b=allow (opOf m k) l r b:=by unfold stepAllow;rw [hk,hm,hl,hr];rfl
 rw [e1,e2]
 have h:=allowN_iff (p:=payB (opOf m k) l r b) (fun j hj hp=>payB_down (out_pos hd) l r b hj hp) hj
 unfold payB at h
 rw [h,decide_eq_decide]
 unfold allow
 show _↔(j:Int)<((allowN (payB (opOf m k) l r b):Nat):Int)
 unfold payB
 omega
theorem allow_none {m:ModelD}{k l r b:Int}(h:¬ (inR k 1 5=true/\admitted m=true/\inR l 0 4096=true/\inR r 0 4096=true)):stepAllow m k l r b=0:=by
 unfold stepAllow
 rw [if_neg]
 simp only [Bool.and_eq_true]
 rintro⟨⟨⟨a,b⟩,c⟩,d⟩
 exact h ⟨a,b,c,d⟩
theorem stepAllow_bd (m:ModelD) (k l r b:Int):0<=stepAllow m k l r b/\stepAllow m k l r b<=8:=by
 unfold stepAllow
 split
 ·have:=allowN_le (payB (opOf m k) l r b)
  unfold allow;omega
 ·omega
end Go.Proofs.Ytjckbnmbhgikjaa
namespace Go.Proofs.Ytjckbnmbhgikjaa
open Go.RowKit
set_option linter.unusedVariables false
set_option linter.unusedSimpArgs false
attribute [local go_sem ↓] Go.wp_at_zero Go.wp_at_succ
theorem sizeOpU:(Try.prog.info? 26).map (·.size)=some 6:=by kernel_rfl
set_option maxRecDepth 100000 in
set_option maxHeartbeats 1600000 in
theorem sModelOperator_c (csx:List Value) (x:ModelD) (k:Int) (w:World) (hx:(rModel NB).rep w csx x) :
  Calls Try.prog 8 #[.agg csx.toArray,.int .i64 k] w (RetVB (rOperator NB) (modelOp x k).1 (.bool (modelOp x k).2) w):=by
 have lenx:=(rModel_ok NB).len hx
 obtain⟨w1,hw1⟩:∃ W,W=w.alloc (.cells csx.toArray 28):=⟨_,rfl⟩
 have b1:Below w.heap.size w w1:=by rw [hw1];exact(Below.refl _ _).alloc (Nat.le_refl _) _
 have kX:Bk w1 w.heap.size 28 csx:=by rw [hw1];exact Bk.new w _ _
 have hs1:w1.heap.size=w.heap.size+1:=by rw [hw1];simp
 obtain⟨w2,hw2⟩:∃ W,W=w1.alloc (.cells #[.int .i64 0,.int .i64 0,.int .i64 0,.int .i64 0,.int .i64 0,.slice none 0 0] 26):=⟨_,rfl⟩
 have b2:Below w1.heap.size w1 w2:=by rw [hw2];exact(Below.refl _ _).alloc (Nat.le_refl _) _
 have kR:Bk w2 (w.heap.size+1) 26 [.int .i64 0,.int .i64 0,.int .i64 0,.int .i64 0,.int .i64 0,.slice none 0 0]:=by rw [hw2,<- hs1];exact Bk.new w1 _ _
 have kX2:=kX.below b2
 have hB:=b1.trans (b2.mono b1.size)
 have hx2:=(rModel_ok NB).keep hx (cells_below hB)
 clear b1 b2 hs1 hx kX
 go_enter Try.func8,Try.ntmps8
 go_upto_region 1 with fail
 rw [<- hw1,<- hw2]
 clear hw1 hw2
 cases hin:inR k 1 5 with
 | false =>
  have HM:Hid (modelOp x k=(⟨0,0,0,0,0,[]⟩,false)):=by show _=_;unfold modelOp;rw [hin];rfl
  have ⟨r0,f0,r1,f1,r2,f2,r3,f3,r4,f4,r5,f5⟩:=kR.r6
  go_wp2_with (go_at_call 20;refine(l1In_v hin _).mono ?_;rintro e w' ⟨rfl,hww⟩;replace hww:=hww.symm;subst hww)
  clear hin
  rw [HM.out]
  have k6:=kR.set6 (.int .i64 0) (.int .i64 0) (.int .i64 0) (.int .i64 0) (.int .i64 0) (.slice none 0 0)
  refine bodyPost_ret (v:=.tuple #[.agg #[.int .i64 0,.int .i64 0,.int .i64 0,.int .i64 0,.int .i64 0,.slice none 0 0],.bool false]) (results_cs Try.results8 rfl rfl k6.rangeAt Try.underlying26 rfl sizeOpU) rfl ?_
  refine⟨_,[],rfl,?_,Fr.nil _,bls6 hB (Nat.le_succ _) _ _ _ _ _ _⟩
  exact rOperator_own.2 ⟨none,0,0,_,rfl,rfl,I64_zero,I64_zero,I64_zero,I64_zero,I64_zero,⟨rfl,Nat.zero_le _,[],[],World.ownsRow_nil _ 0 _ _,rfl,trivial⟩⟩
 | true =>
  have HM:Hid (modelOp x k=(opOf x k,true)):=by show _=_;unfold modelOp;rw [hin];rfl
  go_wp2_with (first|(go_at_call 20;refine(l1In_v hin _).mono ?_;rintro e w' ⟨rfl,hww⟩;replace hww:=hww.symm;subst hww)|(refine wpList_load_mid rfl 28 _ rfl w.heap.size 0 rfl csx _ kX2.rangeAt Try.underlying28 rfl (by rw [lenx];exact sizeModelT) ?_))
  clear hin
  refine(sModelOp_c csx x k _ hx2).mono ?_
  rintro e w3 ⟨A,n,c,rfl,ro,hb3⟩
  have kR3:=kR.below hb3
  have hB3:=hB.trans (hb3.mono hB.size)
  have hz3:w.heap.size+1<w3.heap.size:=kR3.lt
  go_wp2_with fail
  refine(sL21Copy_c _ _ _ ro).mono ?_
  rintro e w4 ⟨cs,fp,rfl,oX,fX,hb4⟩
  have kR4:=kR3.below hb4
  have hB4:=hB3.trans (hb4.mono hB3.size)
  have rX:=(rOperator_ok NB).toRep oX
  have hcz:cs.toArray.size=6:=List.size_toArray.trans ((rOperator_ok NB).len rX)
  have hcl:=(rOperator_ok NB).len rX
  have ON:=one_rep (rOperator_ok NB) rX
  have TH:w4.there (w.heap.size+1) 0 cs.toArray.size:=by rw [hcz];exact kR4.there
  clear kR kR3 hB hB3 hb3 hb4 kX2 hx2 ro
  go_wp2_with (refine wpList_store_mid rfl 26 _ _ rfl (w.heap.size+1) 0 cs.toArray rfl rfl TH (by rw [hcz];exact sizeOpU) ON ?_)
  rw [setCells_kit]
  have bF:=kR4.fill (c:=cs) (by rw [hcl];rfl)
  go_wp2
  refine bodyPost_ret (v:=.tuple #[.agg cs.toArray,.bool true]) (results_cs Try.results8 rfl rfl bF.rangeAt Try.underlying26 rfl (by rw [hcl];exact sizeOpU)) rfl ?_
  rw [HM.out]
  exact⟨cs,fp,rfl,ownSet (rOperator_ok NB) oX (by have:=fX.ge;intro h;have:=this _ h;omega) 0 _,fX.mono (by omega),Below.setCells hB4 (Nat.le_succ _) 0 _⟩
end Go.Proofs.Ytjckbnmbhgikjaa
