/-
  Open, Opens
-/
import Derived.Test.YtcfmidbioecdcaaGreatBase
import Derived.Deep.Slices
import Derived.ChangeSame
import Derived.WideShapes
import Derived.Carry
import Derived.Test.YtcfmidbioecdcaaGreatSz
namespace Go.Proofs.YtcfmidbioecdcaaGreat
open Go.RowKit Go.Deep Go.ChangeShapes Go.WideShapes

/-- whatever reads as a datum at type t reads by r -/
def Opens {α:Type} (P:Program) (t:TypeId) (r:Rp α):Prop :=
 ∀ {H:Type} {enc:TypeId × Value->H} {w:World} {base:Nat} {spare:Nat->Bool} {held:Bool} {fuel:Nat} {cs:List Value} {x:DataW H × List MemPlace},
  DataW.trod enc P w base spare held fuel t cs=some x->∃ y,r.rep w cs y

theorem opens_int {P:Program}{t:TypeId}(ht:P.underlying t=some (.int .i64)):Opens P t rInt:=by
 intro H enc w base spare held fuel cs x h
 obtain⟨n,rfl,_,hw⟩:=DataW.trod_int ht h
 exact⟨n,rfl,bounds_i64 hw⟩
theorem opens_bool {P:Program}{t:TypeId}(ht:P.underlying t=some .bool):Opens P t rBool:=by
 intro H enc w base spare held fuel cs x h
 obtain⟨n,rfl,_⟩:=DataW.trod_bool ht h
 exact⟨n,rfl⟩
theorem opens_str {P:Program}{t:TypeId}(ht:P.underlying t=some .string):Opens P t (rStr maxLen):=by
 intro H enc w base spare held fuel cs x h
 obtain⟨n,rfl,_,hs⟩:=DataW.trod_string ht h
 exact⟨n,rfl,hs⟩

theorem cell_addr {w:World}{a:Addr}{v:Value}(h:w.cell? a=some v):a=⟨a.block,a.off,none⟩:=by
 cases a with
 | mk b o s =>
  cases s with
  | none=>rfl
  | some s =>
   exfalso
   unfold World.cell? at h
   split at h<;>simp at h
theorem add_addr {a:Addr}(ha:a=⟨a.block,a.off,none⟩) (j:Nat):a.add j=⟨a.block,a.off+j,none⟩:=by
 rw [ha];unfold Addr.add
 split
 ·subst_vars;rfl
 ·rfl

theorem list_of_at {α:Type}(R:Nat->α->Prop) (n:Nat) (h:∀ i,i<n->∃ y,R i y):∃ l:List α,l.length=n/\∀ j x,l[j]?=some x->R j x:=by
 induction n with
 | zero=>exact⟨[],rfl,fun j x hj=>by simp at hj⟩
 | succ n ih =>
  obtain⟨l,hl,h1⟩:=ih fun i hi=>h i (by omega)
  obtain⟨y,hy⟩:=h n (by omega)
  refine⟨l++[y],by simp [hl],fun j x hj=>?_⟩
  by_cases hlt:j<n
  ·rw [List.getElem?_append_left (by omega)]at hj;exact h1 j x hj
  ·have:j<(l++[y]).length:=lt_of_at hj
   have e:j=n:=by simp [hl]at this;omega
   subst e
   rw [List.getElem?_append_right (by omega),hl,Nat.sub_self]at hj
   simp at hj;subst hj;exact hy

theorem opens_slice {α:Type}{P:Program}{t e:TypeId}{r:Rp α}(hr:r.Ok) (ht:P.underlying t=some (.slice e)) (hC:P.cellsOf e=r.size) (he:Opens P e r):Opens P t (rSlice maxLen e r):=by
 intro H enc w base spare held fuel cs x h
 rcases open_slice ht h with ⟨rfl,_⟩|⟨a,len,cap,m,n,D,Pl,rfl,_,hlc,hcm,hm,_,hel⟩
 ·exact⟨[],none,0,0,rfl,RS.nil _ _ _ _ _⟩
 ·rw [hC]at hel
  have hlm:len<=m:=by rw [hm];split<;>omega
  have hex:∀ i,i<len->∃ y,∃ cs,r.rep w cs y/\∀ j v,cs[j]?=some v->w.cell? ((a.add (i*r.size)).add j)=some v:=by
   intro i hi
   obtain⟨cs',h1,h2⟩:=hel i (by omega)
   obtain⟨y,hy⟩:=he h2
   obtain⟨_,h3,h4⟩:=World.cells?_some h1
   exact⟨y,cs',hy,fun j v hj=>by rw [h4 j (by rw [<- h3];exact lt_of_at hj)];exact hj⟩
  obtain⟨l,hl,hl2⟩:=list_of_at _ len hex
  refine⟨l,some a,len,cap,rfl,⟨hl,by omega,hlc,fun h0=>?_⟩⟩
  have ha:a=⟨a.block,a.off,none⟩:=by
   obtain⟨y,cs',hy,h5⟩:=hex 0 h0
   have hp:=hr.len hy
   have h6:=h5 0 (cs'[0]'(by rw [hp];exact hr.pos)) (List.getElem?_eq_getElem _)
   rw [Nat.zero_mul]at h6
   exact cell_addr h6
  refine⟨a.block,a.off,by rw [<- ha],fun j x hj=>?_⟩
  obtain⟨cs',h7,h8⟩:=hl2 j x hj
  refine⟨cs',h7,fun i v hi=>?_⟩
  have h9:=h8 i v hi
  rw [add_addr ha,add_addr rfl]at h9
  exact h9

theorem rPair_split {α β:Type}{r:Rp α}{q:Rp β}{w:World}{cs:List Value}{x:α}{y:β}(k:Nat) (h1:r.rep w (cs.take k) x) (h2:q.rep w (cs.drop k) y):(rPair r q).rep w cs (x,y) :=
 ⟨cs.take k,cs.drop k,(List.take_append_drop k cs).symm,h1,h2⟩

/-- one field of a struct -/
theorem opens_field {α:Type}{P:Program}{t:TypeId}{r:Rp α}(ho:Opens P t r) {H:Type}{enc:TypeId × Value->H}{w:World}{base:Nat}{spare:Nat->Bool}{held:Bool}{n:Nat}{cs:List Value}{xs:List (DataW H × List MemPlace)}{i:Nat}
  (hi:i<xs.length) (h:DataW.trod enc P w base spare held n t cs=xs[i]?):∃ y,r.rep w cs y:=by
 rw [List.getElem?_eq_getElem hi]at h
 exact ho h

end Go.Proofs.YtcfmidbioecdcaaGreat
namespace Go.Proofs.YtcfmidbioecdcaaGreat
open Go.RowKit Go.Deep Go.ChangeShapes Go.WideShapes
set_option linter.unusedVariables false
set_option linter.unusedSimpArgs false

theorem smallIntS {w:World}{A:Option Addr}{n cap:Nat}{l:List Int}(h:RS maxLen rInt w A n cap l) (hb:l.length<=1048576):RS NB rInt w A n cap l:=by
 have hl:=h.len
 refine⟨h.len,by unfold NB;omega,h.nc,fun hn=>?_⟩
 obtain⟨b,off,e,hc⟩:=h.cell hn
 refine⟨b,off,e,fun j x hj=>?_⟩
 obtain⟨cs,h1,h2⟩:=hc j x hj
 exact⟨cs,h1,h2⟩
theorem smallAtom {w:World}{cs:List Value}{x:AtomD}(h:(rAtom maxLen).rep w cs x) (hb:bulkAtom x<=1048576):(rAtom NB).rep w cs x:=by
 obtain⟨AVars,nVars,cVars,rfl,hName,hVars⟩:=rAtom_rep.1 h
 simp only [bulkAtom]at hb
 exact rAtom_rep.2 ⟨AVars,nVars,cVars,rfl,(by unfold NB;omega),(smallIntS hVars (by omega))⟩
theorem smallAtomS {w:World}{A:Option Addr}{n cap:Nat}{l:List AtomD}(h:RS maxLen (rAtom maxLen) w A n cap l) (hb:bulkS (fun x=>bulkAtom x) l<=1048576):RS NB (rAtom NB) w A n cap l:=by
 have hl:=h.len
 unfold bulkS at hb
 refine⟨h.len,by unfold NB;omega,h.nc,fun hn=>?_⟩
 obtain⟨b,off,e,hc⟩:=h.cell hn
 refine⟨b,off,e,fun j x hj=>?_⟩
 obtain⟨cs,h1,h2⟩:=hc j x hj
 have e1:=sum_ge (fun x=>bulkAtom x) hj
 exact⟨cs,smallAtom h1 (by omega),h2⟩
theorem smallQuery {w:World}{cs:List Value}{x:QueryD}(h:(rQuery maxLen).rep w cs x) (hb:bulkQuery x<=1048576):(rQuery NB).rep w cs x:=by
 obtain⟨AAtoms,nAtoms,cAtoms,rfl,hVariableCount,hAtoms⟩:=rQuery_rep.1 h
 simp only [bulkQuery]at hb
 exact rQuery_rep.2 ⟨AAtoms,nAtoms,cAtoms,rfl,hVariableCount,(smallAtomS hAtoms (by omega))⟩
theorem smallBox {w:World}{cs:List Value}{x:BoxD}(h:(rBox maxLen).rep w cs x) (hb:bulkBox x<=1048576):(rBox NB).rep w cs x:=by
 obtain⟨ALow,nLow,cLow,AHigh,nHigh,cHigh,rfl,hLow,hHigh⟩:=rBox_rep.1 h
 simp only [bulkBox]at hb
 exact rBox_rep.2 ⟨ALow,nLow,cLow,AHigh,nHigh,cHigh,rfl,(smallIntS hLow (by omega)),(smallIntS hHigh (by omega))⟩
theorem smallCostStep {w:World}{cs:List Value}{x:CostStepD}(h:(rCostStep maxLen).rep w cs x):(rCostStep NB).rep w cs x:=by
 exact rCostStep_rep.2 (rCostStep_rep.1 h)
theorem smallCostStepS {w:World}{A:Option Addr}{n cap:Nat}{l:List CostStepD}(h:RS maxLen (rCostStep maxLen) w A n cap l) (hb:l.length<=1048576):RS NB (rCostStep NB) w A n cap l:=by
 have hl:=h.len
 refine⟨h.len,by unfold NB;omega,h.nc,fun hn=>?_⟩
 obtain⟨b,off,e,hc⟩:=h.cell hn
 refine⟨b,off,e,fun j x hj=>?_⟩
 obtain⟨cs,h1,h2⟩:=hc j x hj
 exact⟨cs,smallCostStep h1,h2⟩
theorem smallOperator {w:World}{cs:List Value}{x:OperatorD}(h:(rOperator maxLen).rep w cs x) (hb:bulkOperator x<=1048576):(rOperator NB).rep w cs x:=by
 obtain⟨ASteps,nSteps,cSteps,rfl,hFixed,hPerLeft,hPerRight,hPerOutput,hPerPair,hSteps⟩:=rOperator_rep.1 h
 simp only [bulkOperator]at hb
 exact rOperator_rep.2 ⟨ASteps,nSteps,cSteps,rfl,hFixed,hPerLeft,hPerRight,hPerOutput,hPerPair,(smallCostStepS hSteps (by omega))⟩
theorem smallModel {w:World}{cs:List Value}{x:ModelD}(h:(rModel maxLen).rep w cs x) (hb:bulkModel x<=1048576):(rModel NB).rep w cs x:=by
 obtain⟨AScanSteps,nScanSteps,cScanSteps,ASortSteps,nSortSteps,cSortSteps,AHashSteps,nHashSteps,cHashSteps,AMergeSteps,nMergeSteps,cMergeSteps,ANestedSteps,nNestedSteps,cNestedSteps,rfl,hScanFixed,hScanPerLeft,hScanPerRight,hScanPerOutput,hScanPerPair,hScanSteps,hSortFixed,hSortPerLeft,hSortPerRight,hSortPerOutput,hSortPerPair,hSortSteps,hHashFixed,hHashPerLeft,hHashPerRight,hHashPerOutput,hHashPerPair,hHashSteps,hMergeFixed,hMergePerLeft,hMergePerRight,hMergePerOutput,hMergePerPair,hMergeSteps,hNestedFixed,hNestedPerLeft,hNestedPerRight,hNestedPerOutput,hNestedPerPair,hNestedSteps⟩:=rModel_rep.1 h
 simp only [bulkModel,bulkOperator]at hb
 exact rModel_rep.2 ⟨AScanSteps,nScanSteps,cScanSteps,ASortSteps,nSortSteps,cSortSteps,AHashSteps,nHashSteps,cHashSteps,AMergeSteps,nMergeSteps,cMergeSteps,ANestedSteps,nNestedSteps,cNestedSteps,rfl,hScanFixed,hScanPerLeft,hScanPerRight,hScanPerOutput,hScanPerPair,(smallCostStepS hScanSteps (by omega)),hSortFixed,hSortPerLeft,hSortPerRight,hSortPerOutput,hSortPerPair,(smallCostStepS hSortSteps (by omega)),hHashFixed,hHashPerLeft,hHashPerRight,hHashPerOutput,hHashPerPair,(smallCostStepS hHashSteps (by omega)),hMergeFixed,hMergePerLeft,hMergePerRight,hMergePerOutput,hMergePerPair,(smallCostStepS hMergeSteps (by omega)),hNestedFixed,hNestedPerLeft,hNestedPerRight,hNestedPerOutput,hNestedPerPair,(smallCostStepS hNestedSteps (by omega))⟩
theorem smallPlanStep {w:World}{cs:List Value}{x:PlanStepD}(h:(rPlanStep maxLen).rep w cs x):(rPlanStep NB).rep w cs x:=by
 exact rPlanStep_rep.2 (rPlanStep_rep.1 h)
theorem smallPlanStepS {w:World}{A:Option Addr}{n cap:Nat}{l:List PlanStepD}(h:RS maxLen (rPlanStep maxLen) w A n cap l) (hb:l.length<=1048576):RS NB (rPlanStep NB) w A n cap l:=by
 have hl:=h.len
 refine⟨h.len,by unfold NB;omega,h.nc,fun hn=>?_⟩
 obtain⟨b,off,e,hc⟩:=h.cell hn
 refine⟨b,off,e,fun j x hj=>?_⟩
 obtain⟨cs,h1,h2⟩:=hc j x hj
 exact⟨cs,smallPlanStep h1,h2⟩
theorem smallPlan {w:World}{cs:List Value}{x:PlanD}(h:(rPlan maxLen).rep w cs x) (hb:bulkPlan x<=1048576):(rPlan NB).rep w cs x:=by
 obtain⟨ASteps,nSteps,cSteps,rfl,hSteps⟩:=rPlan_rep.1 h
 simp only [bulkPlan]at hb
 exact rPlan_rep.2 ⟨ASteps,nSteps,cSteps,rfl,(smallPlanStepS hSteps (by omega))⟩
theorem smallPlanS {w:World}{A:Option Addr}{n cap:Nat}{l:List PlanD}(h:RS maxLen (rPlan maxLen) w A n cap l) (hb:bulkS (fun x=>bulkPlan x) l<=1048576):RS NB (rPlan NB) w A n cap l:=by
 have hl:=h.len
 unfold bulkS at hb
 refine⟨h.len,by unfold NB;omega,h.nc,fun hn=>?_⟩
 obtain⟨b,off,e,hc⟩:=h.cell hn
 refine⟨b,off,e,fun j x hj=>?_⟩
 obtain⟨cs,h1,h2⟩:=hc j x hj
 have e1:=sum_ge (fun x=>bulkPlan x) hj
 exact⟨cs,smallPlan h1 (by omega),h2⟩
theorem smallSpace {w:World}{cs:List Value}{x:SpaceD}(h:(rSpace maxLen).rep w cs x) (hb:bulkSpace x<=1048576):(rSpace NB).rep w cs x:=by
 obtain⟨ABoxLow,nBoxLow,cBoxLow,ABoxHigh,nBoxHigh,cBoxHigh,ACosts,nCosts,cCosts,AChoices,nChoices,cChoices,APlans,nPlans,cPlans,rfl,hBoxLow,hBoxHigh,hCosts,hChoices,hPlans⟩:=rSpace_rep.1 h
 simp only [bulkSpace,bulkBox]at hb
 exact rSpace_rep.2 ⟨ABoxLow,nBoxLow,cBoxLow,ABoxHigh,nBoxHigh,cBoxHigh,ACosts,nCosts,cCosts,AChoices,nChoices,cChoices,APlans,nPlans,cPlans,rfl,(smallIntS hBoxLow (by omega)),(smallIntS hBoxHigh (by omega)),(smallIntS hCosts (by omega)),(smallIntS hChoices (by omega)),(smallPlanS hPlans (by omega))⟩
theorem opensAtom:Opens Tryz.prog 104 (rAtom maxLen):=by
 intro H enc w base spare held fuel cs x h
 obtain⟨xs,n,rfl,_,hlen,hxl,hf⟩:=DataW.trod_struct Tryz.underlying104 h
 have e0:(Tryz.prog.cellsOf 9)=1:=by kernel_rfl
 have f0:DataW.trod enc Tryz.prog w base spare held n 9 ((cs.drop 0).take 1)=xs[0]?:=(congrArg (fun k=>DataW.trod enc Tryz.prog w base spare held n 9 ((cs.drop 0).take k)) e0.symm).trans (hf 0 _ rfl)
 obtain⟨y0,g0⟩:=opens_field (opens_str Tryz.underlying9) (i:=0) (by rw [hxl];decide) f0
 have e1:(Tryz.prog.cellsOf 30)=1:=by kernel_rfl
 have f1:DataW.trod enc Tryz.prog w base spare held n 30 ((cs.drop 1).take 1)=xs[1]?:=(congrArg (fun k=>DataW.trod enc Tryz.prog w base spare held n 30 ((cs.drop 1).take k)) e1.symm).trans (hf 1 _ rfl)
 obtain⟨y1,g1⟩:=opens_field (opens_slice rInt_ok Tryz.underlying30 (by kernel_rfl) (opens_int Tryz.underlying3)) (i:=1) (by rw [hxl];decide) f1
 have hl:cs.length=2:=hlen.trans (by kernel_rfl)
 refine⟨⟨y0,y1⟩,?_⟩
 have t1:(rSlice maxLen 3 rInt).rep w (cs.drop 1) y1:=by rw [List.take_of_length_le (by rw [List.length_drop,hl];decide)]at g1;exact g1
 have t0:(rPair (rStr maxLen) ((rSlice maxLen 3 rInt))).rep w (cs.drop 0) (y0,y1):=rPair_split 1 g0 (by rw [List.drop_drop];exact t1)
 exact t0
theorem opensQuery:Opens Tryz.prog 29 (rQuery maxLen):=by
 intro H enc w base spare held fuel cs x h
 obtain⟨xs,n,rfl,_,hlen,hxl,hf⟩:=DataW.trod_struct Tryz.underlying29 h
 have e0:(Tryz.prog.cellsOf 3)=1:=by kernel_rfl
 have f0:DataW.trod enc Tryz.prog w base spare held n 3 ((cs.drop 0).take 1)=xs[0]?:=(congrArg (fun k=>DataW.trod enc Tryz.prog w base spare held n 3 ((cs.drop 0).take k)) e0.symm).trans (hf 0 _ rfl)
 obtain⟨y0,g0⟩:=opens_field (opens_int Tryz.underlying3) (i:=0) (by rw [hxl];decide) f0
 have e1:(Tryz.prog.cellsOf 27)=1:=by kernel_rfl
 have f1:DataW.trod enc Tryz.prog w base spare held n 27 ((cs.drop 1).take 1)=xs[1]?:=(congrArg (fun k=>DataW.trod enc Tryz.prog w base spare held n 27 ((cs.drop 1).take k)) e1.symm).trans (hf 1 _ rfl)
 obtain⟨y1,g1⟩:=opens_field (opens_slice (rAtom_ok maxLen) Tryz.underlying27 (by kernel_rfl) opensAtom) (i:=1) (by rw [hxl];decide) f1
 have hl:cs.length=2:=hlen.trans (by kernel_rfl)
 refine⟨⟨y0,y1⟩,?_⟩
 have t1:(rSlice maxLen 124 (rAtom maxLen)).rep w (cs.drop 1) y1:=by rw [List.take_of_length_le (by rw [List.length_drop,hl];decide)]at g1;exact g1
 have t0:(rPair rInt ((rSlice maxLen 124 (rAtom maxLen)))).rep w (cs.drop 0) (y0,y1):=rPair_split 1 g0 (by rw [List.drop_drop];exact t1)
 exact t0
theorem opensBox:Opens Tryz.prog 32 (rBox maxLen):=by
 intro H enc w base spare held fuel cs x h
 obtain⟨xs,n,rfl,_,hlen,hxl,hf⟩:=DataW.trod_struct Tryz.underlying32 h
 have e0:(Tryz.prog.cellsOf 30)=1:=by kernel_rfl
 have f0:DataW.trod enc Tryz.prog w base spare held n 30 ((cs.drop 0).take 1)=xs[0]?:=(congrArg (fun k=>DataW.trod enc Tryz.prog w base spare held n 30 ((cs.drop 0).take k)) e0.symm).trans (hf 0 _ rfl)
 obtain⟨y0,g0⟩:=opens_field (opens_slice rInt_ok Tryz.underlying30 (by kernel_rfl) (opens_int Tryz.underlying3)) (i:=0) (by rw [hxl];decide) f0
 have e1:(Tryz.prog.cellsOf 30)=1:=by kernel_rfl
 have f1:DataW.trod enc Tryz.prog w base spare held n 30 ((cs.drop 1).take 1)=xs[1]?:=(congrArg (fun k=>DataW.trod enc Tryz.prog w base spare held n 30 ((cs.drop 1).take k)) e1.symm).trans (hf 1 _ rfl)
 obtain⟨y1,g1⟩:=opens_field (opens_slice rInt_ok Tryz.underlying30 (by kernel_rfl) (opens_int Tryz.underlying3)) (i:=1) (by rw [hxl];decide) f1
 have hl:cs.length=2:=hlen.trans (by kernel_rfl)
 refine⟨⟨y0,y1⟩,?_⟩
 have t1:(rSlice maxLen 3 rInt).rep w (cs.drop 1) y1:=by rw [List.take_of_length_le (by rw [List.length_drop,hl];decide)]at g1;exact g1
 have t0:(rPair (rSlice maxLen 3 rInt) ((rSlice maxLen 3 rInt))).rep w (cs.drop 0) (y0,y1):=rPair_split 1 g0 (by rw [List.drop_drop];exact t1)
 exact t0
theorem opensCostStep:Opens Tryz.prog 157 (rCostStep maxLen):=by
 intro H enc w base spare held fuel cs x h
 obtain⟨xs,n,rfl,_,hlen,hxl,hf⟩:=DataW.trod_struct Tryz.underlying157 h
 have e0:(Tryz.prog.cellsOf 3)=1:=by kernel_rfl
 have f0:DataW.trod enc Tryz.prog w base spare held n 3 ((cs.drop 0).take 1)=xs[0]?:=(congrArg (fun k=>DataW.trod enc Tryz.prog w base spare held n 3 ((cs.drop 0).take k)) e0.symm).trans (hf 0 _ rfl)
 obtain⟨y0,g0⟩:=opens_field (opens_int Tryz.underlying3) (i:=0) (by rw [hxl];decide) f0
 have e1:(Tryz.prog.cellsOf 3)=1:=by kernel_rfl
 have f1:DataW.trod enc Tryz.prog w base spare held n 3 ((cs.drop 1).take 1)=xs[1]?:=(congrArg (fun k=>DataW.trod enc Tryz.prog w base spare held n 3 ((cs.drop 1).take k)) e1.symm).trans (hf 1 _ rfl)
 obtain⟨y1,g1⟩:=opens_field (opens_int Tryz.underlying3) (i:=1) (by rw [hxl];decide) f1
 have hl:cs.length=2:=hlen.trans (by kernel_rfl)
 refine⟨⟨y0,y1⟩,?_⟩
 have t1:rInt.rep w (cs.drop 1) y1:=by rw [List.take_of_length_le (by rw [List.length_drop,hl];decide)]at g1;exact g1
 have t0:(rPair rInt (rInt)).rep w (cs.drop 0) (y0,y1):=rPair_split 1 g0 (by rw [List.drop_drop];exact t1)
 exact t0
theorem opensOperator:Opens Tryz.prog 24 (rOperator maxLen):=by
 intro H enc w base spare held fuel cs x h
 obtain⟨xs,n,rfl,_,hlen,hxl,hf⟩:=DataW.trod_struct Tryz.underlying24 h
 have e0:(Tryz.prog.cellsOf 3)=1:=by kernel_rfl
 have f0:DataW.trod enc Tryz.prog w base spare held n 3 ((cs.drop 0).take 1)=xs[0]?:=(congrArg (fun k=>DataW.trod enc Tryz.prog w base spare held n 3 ((cs.drop 0).take k)) e0.symm).trans (hf 0 _ rfl)
 obtain⟨y0,g0⟩:=opens_field (opens_int Tryz.underlying3) (i:=0) (by rw [hxl];decide) f0
 have e1:(Tryz.prog.cellsOf 3)=1:=by kernel_rfl
 have f1:DataW.trod enc Tryz.prog w base spare held n 3 ((cs.drop 1).take 1)=xs[1]?:=(congrArg (fun k=>DataW.trod enc Tryz.prog w base spare held n 3 ((cs.drop 1).take k)) e1.symm).trans (hf 1 _ rfl)
 obtain⟨y1,g1⟩:=opens_field (opens_int Tryz.underlying3) (i:=1) (by rw [hxl];decide) f1
 have e2:(Tryz.prog.cellsOf 3)=1:=by kernel_rfl
 have f2:DataW.trod enc Tryz.prog w base spare held n 3 ((cs.drop 2).take 1)=xs[2]?:=(congrArg (fun k=>DataW.trod enc Tryz.prog w base spare held n 3 ((cs.drop 2).take k)) e2.symm).trans (hf 2 _ rfl)
 obtain⟨y2,g2⟩:=opens_field (opens_int Tryz.underlying3) (i:=2) (by rw [hxl];decide) f2
 have e3:(Tryz.prog.cellsOf 3)=1:=by kernel_rfl
 have f3:DataW.trod enc Tryz.prog w base spare held n 3 ((cs.drop 3).take 1)=xs[3]?:=(congrArg (fun k=>DataW.trod enc Tryz.prog w base spare held n 3 ((cs.drop 3).take k)) e3.symm).trans (hf 3 _ rfl)
 obtain⟨y3,g3⟩:=opens_field (opens_int Tryz.underlying3) (i:=3) (by rw [hxl];decide) f3
 have e4:(Tryz.prog.cellsOf 3)=1:=by kernel_rfl
 have f4:DataW.trod enc Tryz.prog w base spare held n 3 ((cs.drop 4).take 1)=xs[4]?:=(congrArg (fun k=>DataW.trod enc Tryz.prog w base spare held n 3 ((cs.drop 4).take k)) e4.symm).trans (hf 4 _ rfl)
 obtain⟨y4,g4⟩:=opens_field (opens_int Tryz.underlying3) (i:=4) (by rw [hxl];decide) f4
 have e5:(Tryz.prog.cellsOf 22)=1:=by kernel_rfl
 have f5:DataW.trod enc Tryz.prog w base spare held n 22 ((cs.drop 5).take 1)=xs[5]?:=(congrArg (fun k=>DataW.trod enc Tryz.prog w base spare held n 22 ((cs.drop 5).take k)) e5.symm).trans (hf 5 _ rfl)
 obtain⟨y5,g5⟩:=opens_field (opens_slice (rCostStep_ok maxLen) Tryz.underlying22 (by kernel_rfl) opensCostStep) (i:=5) (by rw [hxl];decide) f5
 have hl:cs.length=6:=hlen.trans (by kernel_rfl)
 refine⟨⟨y0,y1,y2,y3,y4,y5⟩,?_⟩
 have t5:(rSlice maxLen 155 (rCostStep maxLen)).rep w (cs.drop 5) y5:=by rw [List.take_of_length_le (by rw [List.length_drop,hl];decide)]at g5;exact g5
 have t4:(rPair rInt ((rSlice maxLen 155 (rCostStep maxLen)))).rep w (cs.drop 4) (y4,y5):=rPair_split 1 g4 (by rw [List.drop_drop];exact t5)
 have t3:(rPair rInt (rPair rInt ((rSlice maxLen 155 (rCostStep maxLen))))).rep w (cs.drop 3) (y3,y4,y5):=rPair_split 1 g3 (by rw [List.drop_drop];exact t4)
 have t2:(rPair rInt (rPair rInt (rPair rInt ((rSlice maxLen 155 (rCostStep maxLen)))))).rep w (cs.drop 2) (y2,y3,y4,y5):=rPair_split 1 g2 (by rw [List.drop_drop];exact t3)
 have t1:(rPair rInt (rPair rInt (rPair rInt (rPair rInt ((rSlice maxLen 155 (rCostStep maxLen))))))).rep w (cs.drop 1) (y1,y2,y3,y4,y5):=rPair_split 1 g1 (by rw [List.drop_drop];exact t2)
 have t0:(rPair rInt (rPair rInt (rPair rInt (rPair rInt (rPair rInt ((rSlice maxLen 155 (rCostStep maxLen)))))))).rep w (cs.drop 0) (y0,y1,y2,y3,y4,y5):=rPair_split 1 g0 (by rw [List.drop_drop];exact t1)
 exact t0
theorem opensModel:Opens Tryz.prog 26 (rModel maxLen):=by
 intro H enc w base spare held fuel cs x h
 obtain⟨xs,n,rfl,_,hlen,hxl,hf⟩:=DataW.trod_struct Tryz.underlying26 h
 have e0:(Tryz.prog.cellsOf 24)=6:=by kernel_rfl
 have f0:DataW.trod enc Tryz.prog w base spare held n 24 ((cs.drop 0).take 6)=xs[0]?:=(congrArg (fun k=>DataW.trod enc Tryz.prog w base spare held n 24 ((cs.drop 0).take k)) e0.symm).trans (hf 0 _ rfl)
 obtain⟨y0,g0⟩:=opens_field opensOperator (i:=0) (by rw [hxl];decide) f0
 have e1:(Tryz.prog.cellsOf 24)=6:=by kernel_rfl
 have f1:DataW.trod enc Tryz.prog w base spare held n 24 ((cs.drop 6).take 6)=xs[1]?:=(congrArg (fun k=>DataW.trod enc Tryz.prog w base spare held n 24 ((cs.drop 6).take k)) e1.symm).trans (hf 1 _ rfl)
 obtain⟨y1,g1⟩:=opens_field opensOperator (i:=1) (by rw [hxl];decide) f1
 have e2:(Tryz.prog.cellsOf 24)=6:=by kernel_rfl
 have f2:DataW.trod enc Tryz.prog w base spare held n 24 ((cs.drop 12).take 6)=xs[2]?:=(congrArg (fun k=>DataW.trod enc Tryz.prog w base spare held n 24 ((cs.drop 12).take k)) e2.symm).trans (hf 2 _ rfl)
 obtain⟨y2,g2⟩:=opens_field opensOperator (i:=2) (by rw [hxl];decide) f2
 have e3:(Tryz.prog.cellsOf 24)=6:=by kernel_rfl
 have f3:DataW.trod enc Tryz.prog w base spare held n 24 ((cs.drop 18).take 6)=xs[3]?:=(congrArg (fun k=>DataW.trod enc Tryz.prog w base spare held n 24 ((cs.drop 18).take k)) e3.symm).trans (hf 3 _ rfl)
 obtain⟨y3,g3⟩:=opens_field opensOperator (i:=3) (by rw [hxl];decide) f3
 have e4:(Tryz.prog.cellsOf 24)=6:=by kernel_rfl
 have f4:DataW.trod enc Tryz.prog w base spare held n 24 ((cs.drop 24).take 6)=xs[4]?:=(congrArg (fun k=>DataW.trod enc Tryz.prog w base spare held n 24 ((cs.drop 24).take k)) e4.symm).trans (hf 4 _ rfl)
 obtain⟨y4,g4⟩:=opens_field opensOperator (i:=4) (by rw [hxl];decide) f4
 have hl:cs.length=30:=hlen.trans (by kernel_rfl)
 refine⟨⟨y0,y1,y2,y3,y4⟩,?_⟩
 have t4:(rOperator maxLen).rep w (cs.drop 24) y4:=by rw [List.take_of_length_le (by rw [List.length_drop,hl];decide)]at g4;exact g4
 have t3:(rPair (rOperator maxLen) ((rOperator maxLen))).rep w (cs.drop 18) (y3,y4):=rPair_split 6 g3 (by rw [List.drop_drop];exact t4)
 have t2:(rPair (rOperator maxLen) (rPair (rOperator maxLen) ((rOperator maxLen)))).rep w (cs.drop 12) (y2,y3,y4):=rPair_split 6 g2 (by rw [List.drop_drop];exact t3)
 have t1:(rPair (rOperator maxLen) (rPair (rOperator maxLen) (rPair (rOperator maxLen) ((rOperator maxLen))))).rep w (cs.drop 6) (y1,y2,y3,y4):=rPair_split 6 g1 (by rw [List.drop_drop];exact t2)
 have t0:(rPair (rOperator maxLen) (rPair (rOperator maxLen) (rPair (rOperator maxLen) (rPair (rOperator maxLen) ((rOperator maxLen)))))).rep w (cs.drop 0) (y0,y1,y2,y3,y4):=rPair_split 6 g0 (by rw [List.drop_drop];exact t1)
 exact t0
theorem opensPlanStep:Opens Tryz.prog 183 (rPlanStep maxLen):=by
 intro H enc w base spare held fuel cs x h
 obtain⟨xs,n,rfl,_,hlen,hxl,hf⟩:=DataW.trod_struct Tryz.underlying183 h
 have e0:(Tryz.prog.cellsOf 3)=1:=by kernel_rfl
 have f0:DataW.trod enc Tryz.prog w base spare held n 3 ((cs.drop 0).take 1)=xs[0]?:=(congrArg (fun k=>DataW.trod enc Tryz.prog w base spare held n 3 ((cs.drop 0).take k)) e0.symm).trans (hf 0 _ rfl)
 obtain⟨y0,g0⟩:=opens_field (opens_int Tryz.underlying3) (i:=0) (by rw [hxl];decide) f0
 have e1:(Tryz.prog.cellsOf 3)=1:=by kernel_rfl
 have f1:DataW.trod enc Tryz.prog w base spare held n 3 ((cs.drop 1).take 1)=xs[1]?:=(congrArg (fun k=>DataW.trod enc Tryz.prog w base spare held n 3 ((cs.drop 1).take k)) e1.symm).trans (hf 1 _ rfl)
 obtain⟨y1,g1⟩:=opens_field (opens_int Tryz.underlying3) (i:=1) (by rw [hxl];decide) f1
 have e2:(Tryz.prog.cellsOf 3)=1:=by kernel_rfl
 have f2:DataW.trod enc Tryz.prog w base spare held n 3 ((cs.drop 2).take 1)=xs[2]?:=(congrArg (fun k=>DataW.trod enc Tryz.prog w base spare held n 3 ((cs.drop 2).take k)) e2.symm).trans (hf 2 _ rfl)
 obtain⟨y2,g2⟩:=opens_field (opens_int Tryz.underlying3) (i:=2) (by rw [hxl];decide) f2
 have hl:cs.length=3:=hlen.trans (by kernel_rfl)
 refine⟨⟨y0,y1,y2⟩,?_⟩
 have t2:rInt.rep w (cs.drop 2) y2:=by rw [List.take_of_length_le (by rw [List.length_drop,hl];decide)]at g2;exact g2
 have t1:(rPair rInt (rInt)).rep w (cs.drop 1) (y1,y2):=rPair_split 1 g1 (by rw [List.drop_drop];exact t2)
 have t0:(rPair rInt (rPair rInt (rInt))).rep w (cs.drop 0) (y0,y1,y2):=rPair_split 1 g0 (by rw [List.drop_drop];exact t1)
 exact t0
theorem opensPlan:Opens Tryz.prog 108 (rPlan maxLen):=by
 intro H enc w base spare held fuel cs x h
 obtain⟨xs,n,rfl,_,hlen,hxl,hf⟩:=DataW.trod_struct Tryz.underlying108 h
 have e0:(Tryz.prog.cellsOf 106)=1:=by kernel_rfl
 have f0:DataW.trod enc Tryz.prog w base spare held n 106 ((cs.drop 0).take 1)=xs[0]?:=(congrArg (fun k=>DataW.trod enc Tryz.prog w base spare held n 106 ((cs.drop 0).take k)) e0.symm).trans (hf 0 _ rfl)
 obtain⟨y0,g0⟩:=opens_field (opens_slice (rPlanStep_ok maxLen) Tryz.underlying106 (by kernel_rfl) opensPlanStep) (i:=0) (by rw [hxl];decide) f0
 have hl:cs.length=1:=hlen.trans (by kernel_rfl)
 refine⟨⟨y0⟩,?_⟩
 show(rSlice maxLen 176 (rPlanStep maxLen)).rep w cs y0
 rw [List.drop_zero,List.take_of_length_le (by rw [hl];decide)]at g0
 exact g0
theorem opensSpace:Opens Tryz.prog 35 (rSpace maxLen):=by
 intro H enc w base spare held fuel cs x h
 obtain⟨xs,n,rfl,_,hlen,hxl,hf⟩:=DataW.trod_struct Tryz.underlying35 h
 have e0:(Tryz.prog.cellsOf 32)=2:=by kernel_rfl
 have f0:DataW.trod enc Tryz.prog w base spare held n 32 ((cs.drop 0).take 2)=xs[0]?:=(congrArg (fun k=>DataW.trod enc Tryz.prog w base spare held n 32 ((cs.drop 0).take k)) e0.symm).trans (hf 0 _ rfl)
 obtain⟨y0,g0⟩:=opens_field opensBox (i:=0) (by rw [hxl];decide) f0
 have e1:(Tryz.prog.cellsOf 30)=1:=by kernel_rfl
 have f1:DataW.trod enc Tryz.prog w base spare held n 30 ((cs.drop 2).take 1)=xs[1]?:=(congrArg (fun k=>DataW.trod enc Tryz.prog w base spare held n 30 ((cs.drop 2).take k)) e1.symm).trans (hf 1 _ rfl)
 obtain⟨y1,g1⟩:=opens_field (opens_slice rInt_ok Tryz.underlying30 (by kernel_rfl) (opens_int Tryz.underlying3)) (i:=1) (by rw [hxl];decide) f1
 have e2:(Tryz.prog.cellsOf 30)=1:=by kernel_rfl
 have f2:DataW.trod enc Tryz.prog w base spare held n 30 ((cs.drop 3).take 1)=xs[2]?:=(congrArg (fun k=>DataW.trod enc Tryz.prog w base spare held n 30 ((cs.drop 3).take k)) e2.symm).trans (hf 2 _ rfl)
 obtain⟨y2,g2⟩:=opens_field (opens_slice rInt_ok Tryz.underlying30 (by kernel_rfl) (opens_int Tryz.underlying3)) (i:=2) (by rw [hxl];decide) f2
 have e3:(Tryz.prog.cellsOf 33)=1:=by kernel_rfl
 have f3:DataW.trod enc Tryz.prog w base spare held n 33 ((cs.drop 4).take 1)=xs[3]?:=(congrArg (fun k=>DataW.trod enc Tryz.prog w base spare held n 33 ((cs.drop 4).take k)) e3.symm).trans (hf 3 _ rfl)
 obtain⟨y3,g3⟩:=opens_field (opens_slice (rPlan_ok maxLen) Tryz.underlying33 (by kernel_rfl) opensPlan) (i:=3) (by rw [hxl];decide) f3
 have hl:cs.length=5:=hlen.trans (by kernel_rfl)
 refine⟨⟨y0,y1,y2,y3⟩,?_⟩
 have t3:(rSlice maxLen 114 (rPlan maxLen)).rep w (cs.drop 4) y3:=by rw [List.take_of_length_le (by rw [List.length_drop,hl];decide)]at g3;exact g3
 have t2:(rPair (rSlice maxLen 3 rInt) ((rSlice maxLen 114 (rPlan maxLen)))).rep w (cs.drop 3) (y2,y3):=rPair_split 1 g2 (by rw [List.drop_drop];exact t3)
 have t1:(rPair (rSlice maxLen 3 rInt) (rPair (rSlice maxLen 3 rInt) ((rSlice maxLen 114 (rPlan maxLen))))).rep w (cs.drop 2) (y1,y2,y3):=rPair_split 1 g1 (by rw [List.drop_drop];exact t2)
 have t0:(rPair (rBox maxLen) (rPair (rSlice maxLen 3 rInt) (rPair (rSlice maxLen 3 rInt) ((rSlice maxLen 114 (rPlan maxLen)))))).rep w (cs.drop 0) (y0,y1,y2,y3):=rPair_split 2 g0 (by rw [List.drop_drop];exact t1)
 exact t0
end Go.Proofs.YtcfmidbioecdcaaGreat
