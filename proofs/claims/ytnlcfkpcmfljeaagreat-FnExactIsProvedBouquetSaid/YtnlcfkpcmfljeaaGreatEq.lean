/-
  Eq
-/
import Derived.Test.YtnlcfkpcmfljeaaGreatTypes
set_option linter.unusedSimpArgs false
set_option linter.unusedVariables false
set_option maxHeartbeats 800000
set_option maxRecDepth 100000
namespace Go.Proofs.YtnlcfkpcmfljeaaGreat
open Go.RowKit
theorem eqIntS_b (A A':Option Addr) (n n' cap cap':Nat) (l l':List Int) (w:World) (hr:RS NB rInt w A n cap l) (hr':RS NB rInt w A' n' cap' l'):Calls Tryz.prog 71 #[.slice A n cap,.slice A' n' cap'] w fun e w'=>e=.returned (.bool (decide (l=l')))/\Below w.heap.size w w' :=
 (eqIntS_c A A' n n' cap cap' l l' w hr hr').mono fun _ _ ⟨h,q⟩=>⟨h,q.below _⟩
theorem eqIntSS_b (A A':Option Addr) (n n' cap cap':Nat) (l l':List (List Int)) (w:World) (hr:RS NB (rSlice NB 3 rInt) w A n cap l) (hr':RS NB (rSlice NB 3 rInt) w A' n' cap' l'):Calls Tryz.prog 107 #[.slice A n cap,.slice A' n' cap'] w fun e w'=>e=.returned (.bool (decide (l=l')))/\Below w.heap.size w w':=by
 have hn:=hr.bound;have hn':=hr'.bound;by_cases hne:n=n'
 ·subst hne
  go_enter Tryz.func107,Tryz.ntmps107
  go_wp2
  go_loopw [5] (fun i wr=>∃ k:Nat,k<=n/\i=.int .i64 k/\l.take k=l'.take k/\Below w.heap.size w wr) (fun i _=>n - (intOf i).toNat)
  case atStart=>exact⟨0,Nat.zero_le _,rfl,rfl,Below.refl _ _⟩
  case round =>
   obtain⟨k,hk,rfl,heq,hb⟩:=hrel;have HE:=Lib.hid heq;clear heq;by_cases hlt:k<n
   ·obtain⟨b,off,x,cs,rfl,hrep,hcell,hxk⟩:=(hr.below (rSlice_ok NB _ rInt_ok) hb).at_ hlt
    obtain⟨bQ,offQ,xQ,csQ,rfl,hrepQ,hcellQ,hxkQ⟩:=(hr'.below (rSlice_ok NB _ rInt_ok) hb).at_ hlt;have hrep0:=hrep;have hrepQ0:=hrepQ;obtain⟨Ae,ne,ce,rfl,hre⟩:=hrep;have q0:wr.cell? ⟨b,off+k,none⟩=some (.slice Ae ne ce):=by simpa [rSlice]using hcell 0 _ rfl
    clear hcell;obtain⟨AeQ,neQ,ceQ,rfl,hreQ⟩:=hrepQ;have q0Q:wr.cell? ⟨bQ,offQ+k,none⟩=some (.slice AeQ neQ ceQ):=by simpa [rSlice]using hcellQ 0 _ rfl
    clear hcellQ
    go_wp2_with fail
    go_still_tail 8,(by kernel_rfl)
    go_wp2_with fail
    refine(eqIntS_b _ _ _ _ _ _ _ _ wr.drew (hre.keep rInt_ok (fun _ _ h=>h)) (hreQ.keep rInt_ok (fun _ _ h=>h))).mono ?_;rintro e w1 ⟨rfl,hb1⟩;have hB1:Below w.heap.size w w1:=hb.drew.trans (hb1.mono hb.size);by_cases hx:x=xQ
    ·have hbb:decide (x=xQ)=true:=by simp [hx]
     have HX:=Lib.hid hx;clear hx;go_wp2;go_roundw
     case rel=>exact⟨k+1,by omega,by go_num,take_eq_snoc HE.out hxk.out (HX.out▸hxkQ.out),hB1⟩
     case measure=>simp [intOf];omega
    ·have hbb:decide (x=xQ)=false:=by simp [hx]
     go_wp2;go_ret;exact⟨ret_bool (a:=false) (by have:=ne_of_at hxk.out hxkQ.out hx;simp [this]),hB1⟩
   ·go_wp2
    go_ret;have e:l=l':=by rw [<- take_all hr.len hlt,<- take_all hr'.len hlt];exact HE.out
    exact⟨ret_bool (a:=true) (by simp [e]),hb⟩
 ·have hb:((n:Int) != (n':Int))=true:=by simp;omega
  go_enter Tryz.func107,Tryz.ntmps107
  go_wp2;go_ret;have e:l≠l':=by rintro rfl;exact hne (hr.len.symm.trans hr'.len)
  exact⟨ret_bool (a:=false) (by simp [e]),Below.refl _ _⟩
theorem eqAtom_c (cs cs':List Value) (x y:AtomD) (w:World) (h:(rAtom NB).rep w cs x) (h':(rAtom NB).rep w cs' y):Calls Tryz.prog 148 #[.agg cs.toArray,.agg cs'.toArray] w fun e w'=>e=.returned (.bool (decide (x=y)))/\Below w.heap.size w w':=by
 obtain⟨AVars,nVars,cVars,rfl,hName,hVars⟩:=rAtom_rep.1 h;obtain⟨AVarsQ,nVarsQ,cVarsQ,rfl,hNameQ,hVarsQ⟩:=rAtom_rep.1 h';clear h h';have hB0:Below w.heap.size w w:=Below.refl _ _
 go_enter Tryz.func148,Tryz.ntmps148
 by_cases h_Name:x.fName=y.fName
 rotate_left
 ·have hb:(x.fName.toList==y.fName.toList)=false:=str_f h_Name
  go_wp2;go_ret;exact⟨ret_bool (a:=false) (decide_eq_false (fun hh=>h_Name (by rw [hh]))).symm,(bel hB0)⟩
 have hbeName:(x.fName.toList==y.fName.toList)=true:=str_t h_Name;have H_Name:=Lib.hid h_Name;clear h_Name
 go_wp2_with fail
 refine(eqIntS_b _ _ _ _ _ _ _ _ _ (hVars.below rInt_ok (bel hB0)) (hVarsQ.below rInt_ok (bel hB0))).mono ?_;rintro e w1 ⟨rfl,hb1⟩;have hB1:Below w.heap.size w w1:=Below.trans (bel hB0) (hb1.mono byo);have hz1:=hb1.size;obtain⟨hc1,hf1⟩:=bcell hb1
 try simp at hz1 hc1 hf1
 have hy1_0:w.heap.size<w1.heap.size:=by omega
 have hy1_1:w.heap.size+1<w1.heap.size:=by omega
 clear hb1 hf1;by_cases h_Vars:x.fVars=y.fVars
 rotate_left
 ·have hb:decide (x.fVars=y.fVars)=false:=by simp [h_Vars]
  go_wp2;go_ret;exact⟨ret_bool (a:=false) (decide_eq_false (fun hh=>h_Vars (by rw [hh]))).symm,(bel hB1)⟩
 have hbeVars:decide (x.fVars=y.fVars)=true:=by simp [h_Vars]
 have H_Vars:=Lib.hid h_Vars;clear h_Vars;go_wp2;go_ret;exact⟨ret_bool (a:=true) (decide_eq_true (by cases x;cases y;simp only [AtomD.mk.injEq];exact⟨H_Name.out,H_Vars.out⟩)).symm,(bel hB1)⟩
theorem eqAtomS_b (A A':Option Addr) (n n' cap cap':Nat) (l l':List AtomD) (w:World) (hr:RS NB (rAtom NB) w A n cap l) (hr':RS NB (rAtom NB) w A' n' cap' l'):Calls Tryz.prog 74 #[.slice A n cap,.slice A' n' cap'] w fun e w'=>e=.returned (.bool (decide (l=l')))/\Below w.heap.size w w':=by
 have hn:=hr.bound;have hn':=hr'.bound;by_cases hne:n=n'
 ·subst hne
  go_enter Tryz.func74,Tryz.ntmps74
  go_wp2
  go_loopw [5] (fun i wr=>∃ k:Nat,k<=n/\i=.int .i64 k/\l.take k=l'.take k/\Below w.heap.size w wr) (fun i _=>n - (intOf i).toNat)
  case atStart=>exact⟨0,Nat.zero_le _,rfl,rfl,Below.refl _ _⟩
  case round =>
   obtain⟨k,hk,rfl,heq,hb⟩:=hrel;have HE:=Lib.hid heq;clear heq;by_cases hlt:k<n
   ·obtain⟨b,off,x,cs,rfl,hrep,hcell,hxk⟩:=(hr.below (rAtom_ok NB) hb).at_ hlt
    obtain⟨bQ,offQ,xQ,csQ,rfl,hrepQ,hcellQ,hxkQ⟩:=(hr'.below (rAtom_ok NB) hb).at_ hlt;have hrep0:=hrep;have hrepQ0:=hrepQ;obtain⟨AVars,nVars,cVars,rfl,hName,hVars⟩:=rAtom_rep.1 hrep;have q0:wr.cell? ⟨b,off+k*2,none⟩=some (.string x.fName):=by simpa [rAtom_size]using hcell 0 _ rfl
    have q1:wr.cell? ⟨b,off+k*2+1,none⟩=some (.slice AVars nVars cVars):=by simpa [rAtom_size]using hcell 1 _ rfl
    clear hcell;obtain⟨AVarsQ,nVarsQ,cVarsQ,rfl,hNameQ,hVarsQ⟩:=rAtom_rep.1 hrepQ;have q0Q:wr.cell? ⟨bQ,offQ+k*2,none⟩=some (.string xQ.fName):=by simpa [rAtom_size]using hcellQ 0 _ rfl
    have q1Q:wr.cell? ⟨bQ,offQ+k*2+1,none⟩=some (.slice AVarsQ nVarsQ cVarsQ):=by simpa [rAtom_size]using hcellQ 1 _ rfl
    clear hcellQ
    go_wp2_with fail
    go_still_tail 8,(by kernel_rfl)
    go_wp2_with fail
    refine(eqAtom_c _ _ x xQ wr.drew ((rAtom_ok NB).keep hrep0 (fun _ _ h=>h)) ((rAtom_ok NB).keep hrepQ0 (fun _ _ h=>h))).mono ?_;rintro e w1 ⟨rfl,hb1⟩;have hB1:Below w.heap.size w w1:=hb.drew.trans (hb1.mono hb.size);by_cases hx:x=xQ
    ·have hbb:decide (x=xQ)=true:=by simp [hx]
     have HX:=Lib.hid hx;clear hx;go_wp2;go_roundw
     case rel=>exact⟨k+1,by omega,by go_num,take_eq_snoc HE.out hxk.out (HX.out▸hxkQ.out),hB1⟩
     case measure=>simp [intOf];omega
    ·have hbb:decide (x=xQ)=false:=by simp [hx]
     go_wp2;go_ret;exact⟨ret_bool (a:=false) (by have:=ne_of_at hxk.out hxkQ.out hx;simp [this]),hB1⟩
   ·go_wp2
    go_ret;have e:l=l':=by rw [<- take_all hr.len hlt,<- take_all hr'.len hlt];exact HE.out
    exact⟨ret_bool (a:=true) (by simp [e]),hb⟩
 ·have hb:((n:Int) != (n':Int))=true:=by simp;omega
  go_enter Tryz.func74,Tryz.ntmps74
  go_wp2;go_ret;have e:l≠l':=by rintro rfl;exact hne (hr.len.symm.trans hr'.len)
  exact⟨ret_bool (a:=false) (by simp [e]),Below.refl _ _⟩
theorem eqQuery_c (cs cs':List Value) (x y:QueryD) (w:World) (h:(rQuery NB).rep w cs x) (h':(rQuery NB).rep w cs' y):Calls Tryz.prog 17 #[.agg cs.toArray,.agg cs'.toArray] w fun e w'=>e=.returned (.bool (decide (x=y)))/\Below w.heap.size w w':=by
 obtain⟨A_e,n_e,c_e,rfl,h_p5,h_e⟩:=rQuery_rep.1 h;obtain⟨A_eQ,n_eQ,c_eQ,rfl,h_p5Q,h_eQ⟩:=rQuery_rep.1 h';clear h h';have hB0:Below w.heap.size w w:=Below.refl _ _
 go_enter Tryz.func17,Tryz.ntmps17
 by_cases h_VariableCount:x.fVariableCount=y.fVariableCount
 rotate_left
 ·have hb:(x.fVariableCount != y.fVariableCount)=true:=by simp [h_VariableCount]
  go_wp2;go_ret;exact⟨ret_bool (a:=false) (decide_eq_false (fun hh=>h_VariableCount (by rw [hh]))).symm,(bel hB0)⟩
 have hbe_p5:(x.fVariableCount != y.fVariableCount)=false:=by simp [h_VariableCount]
 have H_VariableCount:=Lib.hid h_VariableCount;clear h_VariableCount
 go_wp2_with fail
 refine(eqAtomS_b _ _ _ _ _ _ _ _ _ (h_e.below (rAtom_ok NB) (bel hB0)) (h_eQ.below (rAtom_ok NB) (bel hB0))).mono ?_;rintro e w1 ⟨rfl,hb1⟩;have hB1:Below w.heap.size w w1:=Below.trans (bel hB0) (hb1.mono byo);have hz1:=hb1.size;obtain⟨hc1,hf1⟩:=bcell hb1
 try simp at hz1 hc1 hf1
 have hy1_0:w.heap.size<w1.heap.size:=by omega
 have hy1_1:w.heap.size+1<w1.heap.size:=by omega
 clear hb1 hf1;by_cases h_Atoms:x.fAtoms=y.fAtoms
 rotate_left
 ·have hb:decide (x.fAtoms=y.fAtoms)=false:=by simp [h_Atoms]
  go_wp2;go_ret;exact⟨ret_bool (a:=false) (decide_eq_false (fun hh=>h_Atoms (by rw [hh]))).symm,(bel hB1)⟩
 have hbe_e:decide (x.fAtoms=y.fAtoms)=true:=by simp [h_Atoms]
 have H_Atoms:=Lib.hid h_Atoms;clear h_Atoms;go_wp2;go_ret;exact⟨ret_bool (a:=true) (decide_eq_true (by cases x;cases y;simp only [QueryD.mk.injEq];exact⟨H_VariableCount.out,H_Atoms.out⟩)).symm,(bel hB1)⟩
theorem eqBox_c (cs cs':List Value) (x y:BoxD) (w:World) (h:(rBox NB).rep w cs x) (h':(rBox NB).rep w cs' y):Calls Tryz.prog 18 #[.agg cs.toArray,.agg cs'.toArray] w fun e w'=>e=.returned (.bool (decide (x=y)))/\Below w.heap.size w w':=by
 obtain⟨ALow,nLow,cLow,AHigh,nHigh,cHigh,rfl,hLow,hHigh⟩:=rBox_rep.1 h;obtain⟨ALowQ,nLowQ,cLowQ,AHighQ,nHighQ,cHighQ,rfl,hLowQ,hHighQ⟩:=rBox_rep.1 h';clear h h';have hB0:Below w.heap.size w w:=Below.refl _ _
 go_enter Tryz.func18,Tryz.ntmps18
 go_wp2_with fail
 refine(eqIntS_b _ _ _ _ _ _ _ _ _ (hLow.below rInt_ok (bel hB0)) (hLowQ.below rInt_ok (bel hB0))).mono ?_;rintro e w1 ⟨rfl,hb1⟩;have hB1:Below w.heap.size w w1:=Below.trans (bel hB0) (hb1.mono byo);have hz1:=hb1.size;obtain⟨hc1,hf1⟩:=bcell hb1
 try simp at hz1 hc1 hf1
 have hy1_0:w.heap.size<w1.heap.size:=by omega
 have hy1_1:w.heap.size+1<w1.heap.size:=by omega
 clear hb1 hf1;by_cases h_Low:x.fLow=y.fLow
 rotate_left
 ·have hb:decide (x.fLow=y.fLow)=false:=by simp [h_Low]
  go_wp2;go_ret;exact⟨ret_bool (a:=false) (decide_eq_false (fun hh=>h_Low (by rw [hh]))).symm,(bel hB1)⟩
 have hbeLow:decide (x.fLow=y.fLow)=true:=by simp [h_Low]
 have H_Low:=Lib.hid h_Low;clear h_Low
 go_wp2_with fail
 refine(eqIntS_b _ _ _ _ _ _ _ _ _ (hHigh.below rInt_ok (bel hB1)) (hHighQ.below rInt_ok (bel hB1))).mono ?_;rintro e w2 ⟨rfl,hb2⟩;have hB2:Below w.heap.size w w2:=Below.trans (bel hB1) (hb2.mono byo);have hz2:=hb2.size;obtain⟨hc2,hf2⟩:=bcell hb2
 try simp at hz2 hc2 hf2
 have hy2_0:w.heap.size<w2.heap.size:=by omega
 have hy2_1:w.heap.size+1<w2.heap.size:=by omega
 clear hb2 hf2;by_cases h_High:x.fHigh=y.fHigh
 rotate_left
 ·have hb:decide (x.fHigh=y.fHigh)=false:=by simp [h_High]
  go_wp2;go_ret;exact⟨ret_bool (a:=false) (decide_eq_false (fun hh=>h_High (by rw [hh]))).symm,(bel hB2)⟩
 have hbeHigh:decide (x.fHigh=y.fHigh)=true:=by simp [h_High]
 have H_High:=Lib.hid h_High;clear h_High;go_wp2;go_ret;exact⟨ret_bool (a:=true) (decide_eq_true (by cases x;cases y;simp only [BoxD.mk.injEq];exact⟨H_Low.out,H_High.out⟩)).symm,(bel hB2)⟩
theorem eqCostStep_c (cs cs':List Value) (x y:CostStepD) (w:World) (h:(rCostStep NB).rep w cs x) (h':(rCostStep NB).rep w cs' y):Calls Tryz.prog 209 #[.agg cs.toArray,.agg cs'.toArray] w fun e w'=>e=.returned (.bool (decide (x=y)))/\Below w.heap.size w w':=by
 obtain⟨rfl,hFrom,hAdd⟩:=rCostStep_rep.1 h;obtain⟨rfl,hFromQ,hAddQ⟩:=rCostStep_rep.1 h';clear h h';have hB0:Below w.heap.size w w:=Below.refl _ _
 go_enter Tryz.func209,Tryz.ntmps209
 by_cases h_From:x.fFrom=y.fFrom
 rotate_left
 ·have hb:(x.fFrom != y.fFrom)=true:=by simp [h_From]
  go_wp2;go_ret;exact⟨ret_bool (a:=false) (decide_eq_false (fun hh=>h_From (by rw [hh]))).symm,(bel hB0)⟩
 have hbeFrom:(x.fFrom != y.fFrom)=false:=by simp [h_From]
 have H_From:=Lib.hid h_From;clear h_From;by_cases h_Add:x.fAdd=y.fAdd
 rotate_left
 ·have hb:(x.fAdd != y.fAdd)=true:=by simp [h_Add]
  go_wp2;go_ret;exact⟨ret_bool (a:=false) (decide_eq_false (fun hh=>h_Add (by rw [hh]))).symm,(bel hB0)⟩
 have hbeAdd:(x.fAdd != y.fAdd)=false:=by simp [h_Add]
 have H_Add:=Lib.hid h_Add;clear h_Add;go_wp2;go_ret;exact⟨ret_bool (a:=true) (decide_eq_true (by cases x;cases y;simp only [CostStepD.mk.injEq];exact⟨H_From.out,H_Add.out⟩)).symm,(bel hB0)⟩
theorem eqCostStepS_b (A A':Option Addr) (n n' cap cap':Nat) (l l':List CostStepD) (w:World) (hr:RS NB (rCostStep NB) w A n cap l) (hr':RS NB (rCostStep NB) w A' n' cap' l'):Calls Tryz.prog 147 #[.slice A n cap,.slice A' n' cap'] w fun e w'=>e=.returned (.bool (decide (l=l')))/\Below w.heap.size w w':=by
 have hn:=hr.bound;have hn':=hr'.bound;by_cases hne:n=n'
 ·subst hne
  go_enter Tryz.func147,Tryz.ntmps147
  go_wp2
  go_loopw [5] (fun i wr=>∃ k:Nat,k<=n/\i=.int .i64 k/\l.take k=l'.take k/\Below w.heap.size w wr) (fun i _=>n - (intOf i).toNat)
  case atStart=>exact⟨0,Nat.zero_le _,rfl,rfl,Below.refl _ _⟩
  case round =>
   obtain⟨k,hk,rfl,heq,hb⟩:=hrel;have HE:=Lib.hid heq;clear heq;by_cases hlt:k<n
   ·obtain⟨b,off,x,cs,rfl,hrep,hcell,hxk⟩:=(hr.below (rCostStep_ok NB) hb).at_ hlt
    obtain⟨bQ,offQ,xQ,csQ,rfl,hrepQ,hcellQ,hxkQ⟩:=(hr'.below (rCostStep_ok NB) hb).at_ hlt;have hrep0:=hrep;have hrepQ0:=hrepQ;obtain⟨rfl,hFrom,hAdd⟩:=rCostStep_rep.1 hrep;have q0:wr.cell? ⟨b,off+k*2,none⟩=some (.int .i64 x.fFrom):=by simpa [rCostStep_size]using hcell 0 _ rfl
    have q1:wr.cell? ⟨b,off+k*2+1,none⟩=some (.int .i64 x.fAdd):=by simpa [rCostStep_size]using hcell 1 _ rfl
    clear hcell;obtain⟨rfl,hFromQ,hAddQ⟩:=rCostStep_rep.1 hrepQ;have q0Q:wr.cell? ⟨bQ,offQ+k*2,none⟩=some (.int .i64 xQ.fFrom):=by simpa [rCostStep_size]using hcellQ 0 _ rfl
    have q1Q:wr.cell? ⟨bQ,offQ+k*2+1,none⟩=some (.int .i64 xQ.fAdd):=by simpa [rCostStep_size]using hcellQ 1 _ rfl
    clear hcellQ
    go_wp2_with fail
    go_still_tail 8,(by kernel_rfl)
    go_wp2_with fail
    refine(eqCostStep_c _ _ x xQ wr.drew ((rCostStep_ok NB).keep hrep0 (fun _ _ h=>h)) ((rCostStep_ok NB).keep hrepQ0 (fun _ _ h=>h))).mono ?_;rintro e w1 ⟨rfl,hb1⟩;have hB1:Below w.heap.size w w1:=hb.drew.trans (hb1.mono hb.size);by_cases hx:x=xQ
    ·have hbb:decide (x=xQ)=true:=by simp [hx]
     have HX:=Lib.hid hx;clear hx;go_wp2;go_roundw
     case rel=>exact⟨k+1,by omega,by go_num,take_eq_snoc HE.out hxk.out (HX.out▸hxkQ.out),hB1⟩
     case measure=>simp [intOf];omega
    ·have hbb:decide (x=xQ)=false:=by simp [hx]
     go_wp2;go_ret;exact⟨ret_bool (a:=false) (by have:=ne_of_at hxk.out hxkQ.out hx;simp [this]),hB1⟩
   ·go_wp2
    go_ret;have e:l=l':=by rw [<- take_all hr.len hlt,<- take_all hr'.len hlt];exact HE.out
    exact⟨ret_bool (a:=true) (by simp [e]),hb⟩
 ·have hb:((n:Int) != (n':Int))=true:=by simp;omega
  go_enter Tryz.func147,Tryz.ntmps147
  go_wp2;go_ret;have e:l≠l':=by rintro rfl;exact hne (hr.len.symm.trans hr'.len)
  exact⟨ret_bool (a:=false) (by simp [e]),Below.refl _ _⟩
theorem eqOperator_c (cs cs':List Value) (x y:OperatorD) (w:World) (h:(rOperator NB).rep w cs x) (h':(rOperator NB).rep w cs' y):Calls Tryz.prog 73 #[.agg cs.toArray,.agg cs'.toArray] w fun e w'=>e=.returned (.bool (decide (x=y)))/\Below w.heap.size w w':=by
 obtain⟨A_d5,n_d5,c_d5,rfl,h_g1,h_t3,h_w3,h_u3,h_v3,h_d5⟩:=rOperator_rep.1 h;obtain⟨A_d5Q,n_d5Q,c_d5Q,rfl,h_g1Q,h_t3Q,h_w3Q,h_u3Q,h_v3Q,h_d5Q⟩:=rOperator_rep.1 h';clear h h';have hB0:Below w.heap.size w w:=Below.refl _ _
 go_enter Tryz.func73,Tryz.ntmps73
 by_cases h_Fixed:x.fFixed=y.fFixed
 rotate_left
 ·have hb:(x.fFixed != y.fFixed)=true:=by simp [h_Fixed]
  go_wp2;go_ret;exact⟨ret_bool (a:=false) (decide_eq_false (fun hh=>h_Fixed (by rw [hh]))).symm,(bel hB0)⟩
 have hbe_g1:(x.fFixed != y.fFixed)=false:=by simp [h_Fixed]
 have H_Fixed:=Lib.hid h_Fixed;clear h_Fixed;by_cases h_PerLeft:x.fPerLeft=y.fPerLeft
 rotate_left
 ·have hb:(x.fPerLeft != y.fPerLeft)=true:=by simp [h_PerLeft]
  go_wp2;go_ret;exact⟨ret_bool (a:=false) (decide_eq_false (fun hh=>h_PerLeft (by rw [hh]))).symm,(bel hB0)⟩
 have hbe_t3:(x.fPerLeft != y.fPerLeft)=false:=by simp [h_PerLeft]
 have H_PerLeft:=Lib.hid h_PerLeft;clear h_PerLeft;by_cases h_PerRight:x.fPerRight=y.fPerRight
 rotate_left
 ·have hb:(x.fPerRight != y.fPerRight)=true:=by simp [h_PerRight]
  go_wp2;go_ret;exact⟨ret_bool (a:=false) (decide_eq_false (fun hh=>h_PerRight (by rw [hh]))).symm,(bel hB0)⟩
 have hbe_w3:(x.fPerRight != y.fPerRight)=false:=by simp [h_PerRight]
 have H_PerRight:=Lib.hid h_PerRight;clear h_PerRight;by_cases h_PerOutput:x.fPerOutput=y.fPerOutput
 rotate_left
 ·have hb:(x.fPerOutput != y.fPerOutput)=true:=by simp [h_PerOutput]
  go_wp2;go_ret;exact⟨ret_bool (a:=false) (decide_eq_false (fun hh=>h_PerOutput (by rw [hh]))).symm,(bel hB0)⟩
 have hbe_u3:(x.fPerOutput != y.fPerOutput)=false:=by simp [h_PerOutput]
 have H_PerOutput:=Lib.hid h_PerOutput;clear h_PerOutput;by_cases h_PerPair:x.fPerPair=y.fPerPair
 rotate_left
 ·have hb:(x.fPerPair != y.fPerPair)=true:=by simp [h_PerPair]
  go_wp2;go_ret;exact⟨ret_bool (a:=false) (decide_eq_false (fun hh=>h_PerPair (by rw [hh]))).symm,(bel hB0)⟩
 have hbe_v3:(x.fPerPair != y.fPerPair)=false:=by simp [h_PerPair]
 have H_PerPair:=Lib.hid h_PerPair;clear h_PerPair
 go_wp2_with fail
 refine(eqCostStepS_b _ _ _ _ _ _ _ _ _ (h_d5.below (rCostStep_ok NB) (bel hB0)) (h_d5Q.below (rCostStep_ok NB) (bel hB0))).mono ?_;rintro e w1 ⟨rfl,hb1⟩;have hB1:Below w.heap.size w w1:=Below.trans (bel hB0) (hb1.mono byo);have hz1:=hb1.size;obtain⟨hc1,hf1⟩:=bcell hb1
 try simp at hz1 hc1 hf1
 have hy1_0:w.heap.size<w1.heap.size:=by omega
 have hy1_1:w.heap.size+1<w1.heap.size:=by omega
 clear hb1 hf1;by_cases h_Steps:x.fSteps=y.fSteps
 rotate_left
 ·have hb:decide (x.fSteps=y.fSteps)=false:=by simp [h_Steps]
  go_wp2;go_ret;exact⟨ret_bool (a:=false) (decide_eq_false (fun hh=>h_Steps (by rw [hh]))).symm,(bel hB1)⟩
 have hbe_d5:decide (x.fSteps=y.fSteps)=true:=by simp [h_Steps]
 have H_Steps:=Lib.hid h_Steps;clear h_Steps;go_wp2;go_ret;exact⟨ret_bool (a:=true) (decide_eq_true (by cases x;cases y;simp only [OperatorD.mk.injEq];exact⟨H_Fixed.out,H_PerLeft.out,H_PerRight.out,H_PerOutput.out,H_PerPair.out,H_Steps.out⟩)).symm,(bel hB1)⟩
theorem eqModel_c (cs cs':List Value) (x y:ModelD) (w:World) (h:(rModel NB).rep w cs x) (h':(rModel NB).rep w cs' y):Calls Tryz.prog 16 #[.agg cs.toArray,.agg cs'.toArray] w fun e w'=>e=.returned (.bool (decide (x=y)))/\Below w.heap.size w w':=by
 obtain⟨A_s4,n_s4,c_s4,A_b5,n_b5,c_b5,A_p1,n_p1,c_p1,A_d2,n_d2,c_d2,A_p3,n_p3,c_p3,rfl,h_n4,h_o4,h_r4,h_p4,h_q4,h_s4,h_w4,h_x4,h_a5,h_y4,h_z4,h_b5,h_k1,h_l1,h_o1,h_m1,h_n1,h_p1,h_y1,h_z1,h_c2,h_a2,h_b2,h_d2,h_k3,h_l3,h_o3,h_m3,h_n3,h_p3⟩:=rModel_rep.1 h;obtain⟨A_s4Q,n_s4Q,c_s4Q,A_b5Q,n_b5Q,c_b5Q,A_p1Q,n_p1Q,c_p1Q,A_d2Q,n_d2Q,c_d2Q,A_p3Q,n_p3Q,c_p3Q,rfl,h_n4Q,h_o4Q,h_r4Q,h_p4Q,h_q4Q,h_s4Q,h_w4Q,h_x4Q,h_a5Q,h_y4Q,h_z4Q,h_b5Q,h_k1Q,h_l1Q,h_o1Q,h_m1Q,h_n1Q,h_p1Q,h_y1Q,h_z1Q,h_c2Q,h_a2Q,h_b2Q,h_d2Q,h_k3Q,h_l3Q,h_o3Q,h_m3Q,h_n3Q,h_p3Q⟩:=rModel_rep.1 h';clear h h';have hB0:Below w.heap.size w w:=Below.refl _ _
 go_enter Tryz.func16,Tryz.ntmps16
 go_wp2_with fail
 refine(eqOperator_c _ _ x.fScan y.fScan _ ((rOperator_ok NB).keep (rOperator_rep.2 ⟨A_s4,n_s4,c_s4,rfl,h_n4,h_o4,h_r4,h_p4,h_q4,h_s4⟩) (cells_below (bel hB0))) ((rOperator_ok NB).keep (rOperator_rep.2 ⟨A_s4Q,n_s4Q,c_s4Q,rfl,h_n4Q,h_o4Q,h_r4Q,h_p4Q,h_q4Q,h_s4Q⟩) (cells_below (bel hB0)))).mono ?_;rintro e w1 ⟨rfl,hb1⟩;have hB1:Below w.heap.size w w1:=Below.trans (bel hB0) (hb1.mono byo);have hz1:=hb1.size;obtain⟨hc1,hf1⟩:=bcell hb1
 try simp at hz1 hc1 hf1
 have hy1_0:w.heap.size<w1.heap.size:=by omega
 have hy1_1:w.heap.size+1<w1.heap.size:=by omega
 clear hb1 hf1;by_cases h_Scan:x.fScan=y.fScan
 rotate_left
 ·have hb:decide (x.fScan=y.fScan)=false:=by simp [h_Scan]
  go_wp2;go_ret;exact⟨ret_bool (a:=false) (decide_eq_false (fun hh=>h_Scan (by rw [hh]))).symm,(bel hB1)⟩
 have hbeScan:decide (x.fScan=y.fScan)=true:=by simp [h_Scan]
 have H_Scan:=Lib.hid h_Scan;clear h_Scan
 go_wp2_with fail
 refine(eqOperator_c _ _ x.fSort y.fSort _ ((rOperator_ok NB).keep (rOperator_rep.2 ⟨A_b5,n_b5,c_b5,rfl,h_w4,h_x4,h_a5,h_y4,h_z4,h_b5⟩) (cells_below (bel hB1))) ((rOperator_ok NB).keep (rOperator_rep.2 ⟨A_b5Q,n_b5Q,c_b5Q,rfl,h_w4Q,h_x4Q,h_a5Q,h_y4Q,h_z4Q,h_b5Q⟩) (cells_below (bel hB1)))).mono ?_;rintro e w2 ⟨rfl,hb2⟩;have hB2:Below w.heap.size w w2:=Below.trans (bel hB1) (hb2.mono byo);have hz2:=hb2.size;obtain⟨hc2,hf2⟩:=bcell hb2
 try simp at hz2 hc2 hf2
 have hy2_0:w.heap.size<w2.heap.size:=by omega
 have hy2_1:w.heap.size+1<w2.heap.size:=by omega
 clear hb2 hf2;by_cases h_Sort:x.fSort=y.fSort
 rotate_left
 ·have hb:decide (x.fSort=y.fSort)=false:=by simp [h_Sort]
  go_wp2;go_ret;exact⟨ret_bool (a:=false) (decide_eq_false (fun hh=>h_Sort (by rw [hh]))).symm,(bel hB2)⟩
 have hbeSort:decide (x.fSort=y.fSort)=true:=by simp [h_Sort]
 have H_Sort:=Lib.hid h_Sort;clear h_Sort
 go_wp2_with fail
 refine(eqOperator_c _ _ x.fHash y.fHash _ ((rOperator_ok NB).keep (rOperator_rep.2 ⟨A_p1,n_p1,c_p1,rfl,h_k1,h_l1,h_o1,h_m1,h_n1,h_p1⟩) (cells_below (bel hB2))) ((rOperator_ok NB).keep (rOperator_rep.2 ⟨A_p1Q,n_p1Q,c_p1Q,rfl,h_k1Q,h_l1Q,h_o1Q,h_m1Q,h_n1Q,h_p1Q⟩) (cells_below (bel hB2)))).mono ?_;rintro e w3 ⟨rfl,hb3⟩;have hB3:Below w.heap.size w w3:=Below.trans (bel hB2) (hb3.mono byo);have hz3:=hb3.size;obtain⟨hc3,hf3⟩:=bcell hb3
 try simp at hz3 hc3 hf3
 have hy3_0:w.heap.size<w3.heap.size:=by omega
 have hy3_1:w.heap.size+1<w3.heap.size:=by omega
 clear hb3 hf3;by_cases h_Hash:x.fHash=y.fHash
 rotate_left
 ·have hb:decide (x.fHash=y.fHash)=false:=by simp [h_Hash]
  go_wp2;go_ret;exact⟨ret_bool (a:=false) (decide_eq_false (fun hh=>h_Hash (by rw [hh]))).symm,(bel hB3)⟩
 have hbeHash:decide (x.fHash=y.fHash)=true:=by simp [h_Hash]
 have H_Hash:=Lib.hid h_Hash;clear h_Hash
 go_wp2_with fail
 refine(eqOperator_c _ _ x.fMerge y.fMerge _ ((rOperator_ok NB).keep (rOperator_rep.2 ⟨A_d2,n_d2,c_d2,rfl,h_y1,h_z1,h_c2,h_a2,h_b2,h_d2⟩) (cells_below (bel hB3))) ((rOperator_ok NB).keep (rOperator_rep.2 ⟨A_d2Q,n_d2Q,c_d2Q,rfl,h_y1Q,h_z1Q,h_c2Q,h_a2Q,h_b2Q,h_d2Q⟩) (cells_below (bel hB3)))).mono ?_;rintro e w4 ⟨rfl,hb4⟩;have hB4:Below w.heap.size w w4:=Below.trans (bel hB3) (hb4.mono byo);have hz4:=hb4.size;obtain⟨hc4,hf4⟩:=bcell hb4
 try simp at hz4 hc4 hf4
 have hy4_0:w.heap.size<w4.heap.size:=by omega
 have hy4_1:w.heap.size+1<w4.heap.size:=by omega
 clear hb4 hf4;by_cases h_Merge:x.fMerge=y.fMerge
 rotate_left
 ·have hb:decide (x.fMerge=y.fMerge)=false:=by simp [h_Merge]
  go_wp2;go_ret;exact⟨ret_bool (a:=false) (decide_eq_false (fun hh=>h_Merge (by rw [hh]))).symm,(bel hB4)⟩
 have hbeMerge:decide (x.fMerge=y.fMerge)=true:=by simp [h_Merge]
 have H_Merge:=Lib.hid h_Merge;clear h_Merge
 go_wp2_with fail
 refine(eqOperator_c _ _ x.fNested y.fNested _ ((rOperator_ok NB).keep (rOperator_rep.2 ⟨A_p3,n_p3,c_p3,rfl,h_k3,h_l3,h_o3,h_m3,h_n3,h_p3⟩) (cells_below (bel hB4))) ((rOperator_ok NB).keep (rOperator_rep.2 ⟨A_p3Q,n_p3Q,c_p3Q,rfl,h_k3Q,h_l3Q,h_o3Q,h_m3Q,h_n3Q,h_p3Q⟩) (cells_below (bel hB4)))).mono ?_;rintro e w5 ⟨rfl,hb5⟩;have hB5:Below w.heap.size w w5:=Below.trans (bel hB4) (hb5.mono byo);have hz5:=hb5.size;obtain⟨hc5,hf5⟩:=bcell hb5
 try simp at hz5 hc5 hf5
 have hy5_0:w.heap.size<w5.heap.size:=by omega
 have hy5_1:w.heap.size+1<w5.heap.size:=by omega
 clear hb5 hf5;by_cases h_Nested:x.fNested=y.fNested
 rotate_left
 ·have hb:decide (x.fNested=y.fNested)=false:=by simp [h_Nested]
  go_wp2;go_ret;exact⟨ret_bool (a:=false) (decide_eq_false (fun hh=>h_Nested (by rw [hh]))).symm,(bel hB5)⟩
 have hbeNested:decide (x.fNested=y.fNested)=true:=by simp [h_Nested]
 have H_Nested:=Lib.hid h_Nested;clear h_Nested;go_wp2;go_ret;exact⟨ret_bool (a:=true) (decide_eq_true (by cases x;cases y;simp only [ModelD.mk.injEq];exact⟨H_Scan.out,H_Sort.out,H_Hash.out,H_Merge.out,H_Nested.out⟩)).symm,(bel hB5)⟩
theorem eqPlanStep_c (cs cs':List Value) (x y:PlanStepD) (w:World) (h:(rPlanStep NB).rep w cs x) (h':(rPlanStep NB).rep w cs' y):Calls Tryz.prog 242 #[.agg cs.toArray,.agg cs'.toArray] w fun e w'=>e=.returned (.bool (decide (x=y)))/\Below w.heap.size w w':=by
 obtain⟨rfl,hKind,h_d,h_s3⟩:=rPlanStep_rep.1 h;obtain⟨rfl,hKindQ,h_dQ,h_s3Q⟩:=rPlanStep_rep.1 h';clear h h';have hB0:Below w.heap.size w w:=Below.refl _ _
 go_enter Tryz.func242,Tryz.ntmps242
 by_cases h_Kind:x.fKind=y.fKind
 rotate_left
 ·have hb:(x.fKind != y.fKind)=true:=by simp [h_Kind]
  go_wp2;go_ret;exact⟨ret_bool (a:=false) (decide_eq_false (fun hh=>h_Kind (by rw [hh]))).symm,(bel hB0)⟩
 have hbeKind:(x.fKind != y.fKind)=false:=by simp [h_Kind]
 have H_Kind:=Lib.hid h_Kind;clear h_Kind;by_cases h_Atom:x.fAtom=y.fAtom
 rotate_left
 ·have hb:(x.fAtom != y.fAtom)=true:=by simp [h_Atom]
  go_wp2;go_ret;exact⟨ret_bool (a:=false) (decide_eq_false (fun hh=>h_Atom (by rw [hh]))).symm,(bel hB0)⟩
 have hbe_d:(x.fAtom != y.fAtom)=false:=by simp [h_Atom]
 have H_Atom:=Lib.hid h_Atom;clear h_Atom;by_cases h_Order:x.fOrder=y.fOrder
 rotate_left
 ·have hb:(x.fOrder != y.fOrder)=true:=by simp [h_Order]
  go_wp2;go_ret;exact⟨ret_bool (a:=false) (decide_eq_false (fun hh=>h_Order (by rw [hh]))).symm,(bel hB0)⟩
 have hbe_s3:(x.fOrder != y.fOrder)=false:=by simp [h_Order]
 have H_Order:=Lib.hid h_Order;clear h_Order;go_wp2;go_ret;exact⟨ret_bool (a:=true) (decide_eq_true (by cases x;cases y;simp only [PlanStepD.mk.injEq];exact⟨H_Kind.out,H_Atom.out,H_Order.out⟩)).symm,(bel hB0)⟩
theorem eqPlanStepS_b (A A':Option Addr) (n n' cap cap':Nat) (l l':List PlanStepD) (w:World) (hr:RS NB (rPlanStep NB) w A n cap l) (hr':RS NB (rPlanStep NB) w A' n' cap' l'):Calls Tryz.prog 208 #[.slice A n cap,.slice A' n' cap'] w fun e w'=>e=.returned (.bool (decide (l=l')))/\Below w.heap.size w w':=by
 have hn:=hr.bound;have hn':=hr'.bound;by_cases hne:n=n'
 ·subst hne
  go_enter Tryz.func208,Tryz.ntmps208
  go_wp2
  go_loopw [5] (fun i wr=>∃ k:Nat,k<=n/\i=.int .i64 k/\l.take k=l'.take k/\Below w.heap.size w wr) (fun i _=>n - (intOf i).toNat)
  case atStart=>exact⟨0,Nat.zero_le _,rfl,rfl,Below.refl _ _⟩
  case round =>
   obtain⟨k,hk,rfl,heq,hb⟩:=hrel;have HE:=Lib.hid heq;clear heq;by_cases hlt:k<n
   ·obtain⟨b,off,x,cs,rfl,hrep,hcell,hxk⟩:=(hr.below (rPlanStep_ok NB) hb).at_ hlt
    obtain⟨bQ,offQ,xQ,csQ,rfl,hrepQ,hcellQ,hxkQ⟩:=(hr'.below (rPlanStep_ok NB) hb).at_ hlt;have hrep0:=hrep;have hrepQ0:=hrepQ;obtain⟨rfl,hKind,h_d,h_s3⟩:=rPlanStep_rep.1 hrep;have q0:wr.cell? ⟨b,off+k*3,none⟩=some (.int .i64 x.fKind):=by simpa [rPlanStep_size]using hcell 0 _ rfl
    have q1:wr.cell? ⟨b,off+k*3+1,none⟩=some (.int .i64 x.fAtom):=by simpa [rPlanStep_size]using hcell 1 _ rfl
    have q2:wr.cell? ⟨b,off+k*3+2,none⟩=some (.int .i64 x.fOrder):=by simpa [rPlanStep_size]using hcell 2 _ rfl
    clear hcell;obtain⟨rfl,hKindQ,h_dQ,h_s3Q⟩:=rPlanStep_rep.1 hrepQ;have q0Q:wr.cell? ⟨bQ,offQ+k*3,none⟩=some (.int .i64 xQ.fKind):=by simpa [rPlanStep_size]using hcellQ 0 _ rfl
    have q1Q:wr.cell? ⟨bQ,offQ+k*3+1,none⟩=some (.int .i64 xQ.fAtom):=by simpa [rPlanStep_size]using hcellQ 1 _ rfl
    have q2Q:wr.cell? ⟨bQ,offQ+k*3+2,none⟩=some (.int .i64 xQ.fOrder):=by simpa [rPlanStep_size]using hcellQ 2 _ rfl
    clear hcellQ
    go_wp2_with fail
    go_still_tail 8,(by kernel_rfl)
    go_wp2_with fail
    refine(eqPlanStep_c _ _ x xQ wr.drew ((rPlanStep_ok NB).keep hrep0 (fun _ _ h=>h)) ((rPlanStep_ok NB).keep hrepQ0 (fun _ _ h=>h))).mono ?_;rintro e w1 ⟨rfl,hb1⟩;have hB1:Below w.heap.size w w1:=hb.drew.trans (hb1.mono hb.size);by_cases hx:x=xQ
    ·have hbb:decide (x=xQ)=true:=by simp [hx]
     have HX:=Lib.hid hx;clear hx;go_wp2;go_roundw
     case rel=>exact⟨k+1,by omega,by go_num,take_eq_snoc HE.out hxk.out (HX.out▸hxkQ.out),hB1⟩
     case measure=>simp [intOf];omega
    ·have hbb:decide (x=xQ)=false:=by simp [hx]
     go_wp2;go_ret;exact⟨ret_bool (a:=false) (by have:=ne_of_at hxk.out hxkQ.out hx;simp [this]),hB1⟩
   ·go_wp2
    go_ret;have e:l=l':=by rw [<- take_all hr.len hlt,<- take_all hr'.len hlt];exact HE.out
    exact⟨ret_bool (a:=true) (by simp [e]),hb⟩
 ·have hb:((n:Int) != (n':Int))=true:=by simp;omega
  go_enter Tryz.func208,Tryz.ntmps208
  go_wp2;go_ret;have e:l≠l':=by rintro rfl;exact hne (hr.len.symm.trans hr'.len)
  exact⟨ret_bool (a:=false) (by simp [e]),Below.refl _ _⟩
theorem eqPlan_c (cs cs':List Value) (x y:PlanD) (w:World) (h:(rPlan NB).rep w cs x) (h':(rPlan NB).rep w cs' y):Calls Tryz.prog 146 #[.agg cs.toArray,.agg cs'.toArray] w fun e w'=>e=.returned (.bool (decide (x=y)))/\Below w.heap.size w w':=by
 obtain⟨A_d5,n_d5,c_d5,rfl,h_d5⟩:=rPlan_rep.1 h;obtain⟨A_d5Q,n_d5Q,c_d5Q,rfl,h_d5Q⟩:=rPlan_rep.1 h';clear h h';have hB0:Below w.heap.size w w:=Below.refl _ _
 go_enter Tryz.func146,Tryz.ntmps146
 go_wp2_with fail
 refine(eqPlanStepS_b _ _ _ _ _ _ _ _ _ (h_d5.below (rPlanStep_ok NB) (bel hB0)) (h_d5Q.below (rPlanStep_ok NB) (bel hB0))).mono ?_;rintro e w1 ⟨rfl,hb1⟩;have hB1:Below w.heap.size w w1:=Below.trans (bel hB0) (hb1.mono byo);have hz1:=hb1.size;obtain⟨hc1,hf1⟩:=bcell hb1
 try simp at hz1 hc1 hf1
 have hy1_0:w.heap.size<w1.heap.size:=by omega
 have hy1_1:w.heap.size+1<w1.heap.size:=by omega
 clear hb1 hf1;by_cases h_Steps:x.fSteps=y.fSteps
 rotate_left
 ·have hb:decide (x.fSteps=y.fSteps)=false:=by simp [h_Steps]
  go_wp2;go_ret;exact⟨ret_bool (a:=false) (decide_eq_false (fun hh=>h_Steps (by rw [hh]))).symm,(bel hB1)⟩
 have hbe_d5:decide (x.fSteps=y.fSteps)=true:=by simp [h_Steps]
 have H_Steps:=Lib.hid h_Steps;clear h_Steps;go_wp2;go_ret;exact⟨ret_bool (a:=true) (decide_eq_true (by cases x;cases y;simp only [PlanD.mk.injEq];exact H_Steps.out)).symm,(bel hB1)⟩
theorem eqPlanS_b (A A':Option Addr) (n n' cap cap':Nat) (l l':List PlanD) (w:World) (hr:RS NB (rPlan NB) w A n cap l) (hr':RS NB (rPlan NB) w A' n' cap' l'):Calls Tryz.prog 72 #[.slice A n cap,.slice A' n' cap'] w fun e w'=>e=.returned (.bool (decide (l=l')))/\Below w.heap.size w w':=by
 have hn:=hr.bound;have hn':=hr'.bound;by_cases hne:n=n'
 ·subst hne
  go_enter Tryz.func72,Tryz.ntmps72
  go_wp2
  go_loopw [5] (fun i wr=>∃ k:Nat,k<=n/\i=.int .i64 k/\l.take k=l'.take k/\Below w.heap.size w wr) (fun i _=>n - (intOf i).toNat)
  case atStart=>exact⟨0,Nat.zero_le _,rfl,rfl,Below.refl _ _⟩
  case round =>
   obtain⟨k,hk,rfl,heq,hb⟩:=hrel;have HE:=Lib.hid heq;clear heq;by_cases hlt:k<n
   ·obtain⟨b,off,x,cs,rfl,hrep,hcell,hxk⟩:=(hr.below (rPlan_ok NB) hb).at_ hlt
    obtain⟨bQ,offQ,xQ,csQ,rfl,hrepQ,hcellQ,hxkQ⟩:=(hr'.below (rPlan_ok NB) hb).at_ hlt;have hrep0:=hrep;have hrepQ0:=hrepQ;obtain⟨A_d5,n_d5,c_d5,rfl,h_d5⟩:=rPlan_rep.1 hrep;have q0:wr.cell? ⟨b,off+k,none⟩=some (.slice A_d5 n_d5 c_d5):=by simpa [rPlan_size]using hcell 0 _ rfl
    clear hcell;obtain⟨A_d5Q,n_d5Q,c_d5Q,rfl,h_d5Q⟩:=rPlan_rep.1 hrepQ;have q0Q:wr.cell? ⟨bQ,offQ+k,none⟩=some (.slice A_d5Q n_d5Q c_d5Q):=by simpa [rPlan_size]using hcellQ 0 _ rfl
    clear hcellQ
    go_wp2_with fail
    go_still_tail 8,(by kernel_rfl)
    go_wp2_with fail
    refine(eqPlan_c _ _ x xQ wr.drew ((rPlan_ok NB).keep hrep0 (fun _ _ h=>h)) ((rPlan_ok NB).keep hrepQ0 (fun _ _ h=>h))).mono ?_;rintro e w1 ⟨rfl,hb1⟩;have hB1:Below w.heap.size w w1:=hb.drew.trans (hb1.mono hb.size);by_cases hx:x=xQ
    ·have hbb:decide (x=xQ)=true:=by simp [hx]
     have HX:=Lib.hid hx;clear hx;go_wp2;go_roundw
     case rel=>exact⟨k+1,by omega,by go_num,take_eq_snoc HE.out hxk.out (HX.out▸hxkQ.out),hB1⟩
     case measure=>simp [intOf];omega
    ·have hbb:decide (x=xQ)=false:=by simp [hx]
     go_wp2;go_ret;exact⟨ret_bool (a:=false) (by have:=ne_of_at hxk.out hxkQ.out hx;simp [this]),hB1⟩
   ·go_wp2
    go_ret;have e:l=l':=by rw [<- take_all hr.len hlt,<- take_all hr'.len hlt];exact HE.out
    exact⟨ret_bool (a:=true) (by simp [e]),hb⟩
 ·have hb:((n:Int) != (n':Int))=true:=by simp;omega
  go_enter Tryz.func72,Tryz.ntmps72
  go_wp2;go_ret;have e:l≠l':=by rintro rfl;exact hne (hr.len.symm.trans hr'.len)
  exact⟨ret_bool (a:=false) (by simp [e]),Below.refl _ _⟩
theorem eqBouquet_c (cs cs':List Value) (x y:BouquetD) (w:World) (h:(rBouquet NB).rep w cs x) (h':(rBouquet NB).rep w cs' y):Calls Tryz.prog 42 #[.agg cs.toArray,.agg cs'.toArray] w fun e w'=>e=.returned (.bool (decide (x=y)))/\Below w.heap.size w w':=by
 obtain⟨A_i,n_i,c_i,A_h,n_h,c_h,A_k,n_k,c_k,A_a4,n_a4,c_a4,A_w,n_w,c_w,rfl,h_r5,h_f4,h_v4,h_i,h_h,h_k,h_a4,h_w⟩:=rBouquet_rep.1 h;obtain⟨A_iQ,n_iQ,c_iQ,A_hQ,n_hQ,c_hQ,A_kQ,n_kQ,c_kQ,A_a4Q,n_a4Q,c_a4Q,A_wQ,n_wQ,c_wQ,rfl,h_r5Q,h_f4Q,h_v4Q,h_iQ,h_hQ,h_kQ,h_a4Q,h_wQ⟩:=rBouquet_rep.1 h';clear h h';have hB0:Below w.heap.size w w:=Below.refl _ _
 go_enter Tryz.func42,Tryz.ntmps42
 by_cases h_Version:x.fVersion=y.fVersion
 rotate_left
 ·have hb:(x.fVersion != y.fVersion)=true:=by simp [h_Version]
  go_wp2;go_ret;exact⟨ret_bool (a:=false) (decide_eq_false (fun hh=>h_Version (by rw [hh]))).symm,(bel hB0)⟩
 have hbe_r5:(x.fVersion != y.fVersion)=false:=by simp [h_Version]
 have H_Version:=Lib.hid h_Version;clear h_Version;by_cases h_Ratio:x.fRatio=y.fRatio
 rotate_left
 ·have hb:(x.fRatio != y.fRatio)=true:=by simp [h_Ratio]
  go_wp2;go_ret;exact⟨ret_bool (a:=false) (decide_eq_false (fun hh=>h_Ratio (by rw [hh]))).symm,(bel hB0)⟩
 have hbe_f4:(x.fRatio != y.fRatio)=false:=by simp [h_Ratio]
 have H_Ratio:=Lib.hid h_Ratio;clear h_Ratio;by_cases h_Slack:x.fSlack=y.fSlack
 rotate_left
 ·have hb:(x.fSlack != y.fSlack)=true:=by simp [h_Slack]
  go_wp2;go_ret;exact⟨ret_bool (a:=false) (decide_eq_false (fun hh=>h_Slack (by rw [hh]))).symm,(bel hB0)⟩
 have hbe_v4:(x.fSlack != y.fSlack)=false:=by simp [h_Slack]
 have H_Slack:=Lib.hid h_Slack;clear h_Slack
 go_wp2_with fail
 refine(eqBox_c _ _ x.fBox y.fBox _ ((rBox_ok NB).keep (rBox_rep.2 ⟨A_i,n_i,c_i,A_h,n_h,c_h,rfl,h_i,h_h⟩) (cells_below (bel hB0))) ((rBox_ok NB).keep (rBox_rep.2 ⟨A_iQ,n_iQ,c_iQ,A_hQ,n_hQ,c_hQ,rfl,h_iQ,h_hQ⟩) (cells_below (bel hB0)))).mono ?_;rintro e w1 ⟨rfl,hb1⟩;have hB1:Below w.heap.size w w1:=Below.trans (bel hB0) (hb1.mono byo);have hz1:=hb1.size;obtain⟨hc1,hf1⟩:=bcell hb1
 try simp at hz1 hc1 hf1
 have hy1_0:w.heap.size<w1.heap.size:=by omega
 have hy1_1:w.heap.size+1<w1.heap.size:=by omega
 clear hb1 hf1;by_cases h_Box:x.fBox=y.fBox
 rotate_left
 ·have hb:decide (x.fBox=y.fBox)=false:=by simp [h_Box]
  go_wp2;go_ret;exact⟨ret_bool (a:=false) (decide_eq_false (fun hh=>h_Box (by rw [hh]))).symm,(bel hB1)⟩
 have hbeBox:decide (x.fBox=y.fBox)=true:=by simp [h_Box]
 have H_Box:=Lib.hid h_Box;clear h_Box
 go_wp2_with fail
 refine(eqIntS_b _ _ _ _ _ _ _ _ _ (h_k.below rInt_ok (bel hB1)) (h_kQ.below rInt_ok (bel hB1))).mono ?_;rintro e w2 ⟨rfl,hb2⟩;have hB2:Below w.heap.size w w2:=Below.trans (bel hB1) (hb2.mono byo);have hz2:=hb2.size;obtain⟨hc2,hf2⟩:=bcell hb2
 try simp at hz2 hc2 hf2
 have hy2_0:w.heap.size<w2.heap.size:=by omega
 have hy2_1:w.heap.size+1<w2.heap.size:=by omega
 clear hb2 hf2;by_cases h_Budgets:x.fBudgets=y.fBudgets
 rotate_left
 ·have hb:decide (x.fBudgets=y.fBudgets)=false:=by simp [h_Budgets]
  go_wp2;go_ret;exact⟨ret_bool (a:=false) (decide_eq_false (fun hh=>h_Budgets (by rw [hh]))).symm,(bel hB2)⟩
 have hbe_k:decide (x.fBudgets=y.fBudgets)=true:=by simp [h_Budgets]
 have H_Budgets:=Lib.hid h_Budgets;clear h_Budgets
 go_wp2_with fail
 refine(eqPlanS_b _ _ _ _ _ _ _ _ _ (h_a4.below (rPlan_ok NB) (bel hB2)) (h_a4Q.below (rPlan_ok NB) (bel hB2))).mono ?_;rintro e w3 ⟨rfl,hb3⟩;have hB3:Below w.heap.size w w3:=Below.trans (bel hB2) (hb3.mono byo);have hz3:=hb3.size;obtain⟨hc3,hf3⟩:=bcell hb3
 try simp at hz3 hc3 hf3
 have hy3_0:w.heap.size<w3.heap.size:=by omega
 have hy3_1:w.heap.size+1<w3.heap.size:=by omega
 clear hb3 hf3;by_cases h_Plans:x.fPlans=y.fPlans
 rotate_left
 ·have hb:decide (x.fPlans=y.fPlans)=false:=by simp [h_Plans]
  go_wp2;go_ret;exact⟨ret_bool (a:=false) (decide_eq_false (fun hh=>h_Plans (by rw [hh]))).symm,(bel hB3)⟩
 have hbe_a4:decide (x.fPlans=y.fPlans)=true:=by simp [h_Plans]
 have H_Plans:=Lib.hid h_Plans;clear h_Plans
 go_wp2_with fail
 refine(eqIntSS_b _ _ _ _ _ _ _ _ _ (h_w.below (rSlice_ok NB _ rInt_ok) (bel hB3)) (h_wQ.below (rSlice_ok NB _ rInt_ok) (bel hB3))).mono ?_;rintro e w4 ⟨rfl,hb4⟩;have hB4:Below w.heap.size w w4:=Below.trans (bel hB3) (hb4.mono byo);have hz4:=hb4.size;obtain⟨hc4,hf4⟩:=bcell hb4
 try simp at hz4 hc4 hf4
 have hy4_0:w.heap.size<w4.heap.size:=by omega
 have hy4_1:w.heap.size+1<w4.heap.size:=by omega
 clear hb4 hf4;by_cases h_Contours:x.fContours=y.fContours
 rotate_left
 ·have hb:decide (x.fContours=y.fContours)=false:=by simp [h_Contours]
  go_wp2;go_ret;exact⟨ret_bool (a:=false) (decide_eq_false (fun hh=>h_Contours (by rw [hh]))).symm,(bel hB4)⟩
 have hbe_w:decide (x.fContours=y.fContours)=true:=by simp [h_Contours]
 have H_Contours:=Lib.hid h_Contours;clear h_Contours;go_wp2;go_ret;exact⟨ret_bool (a:=true) (decide_eq_true (by cases x;cases y;simp only [BouquetD.mk.injEq];exact⟨H_Version.out,H_Ratio.out,H_Slack.out,H_Box.out,H_Budgets.out,H_Plans.out,H_Contours.out⟩)).symm,(bel hB4)⟩
end Go.Proofs.YtnlcfkpcmfljeaaGreat
