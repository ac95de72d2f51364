/-
  To
-/
import Derived.Test.YtnlcfkpcmfljeaaGreatTypes
set_option linter.unusedSimpArgs false
set_option linter.unusedVariables false
set_option maxHeartbeats 800000
namespace Go.Proofs.YtnlcfkpcmfljeaaGreat
open Go.RowKit
theorem eiIntS:Ei Tryz.prog 83 30 (.slice none 0 0) (rSlice NB 3 rInt).size 24:=⟨by kernel_rfl,by kernel_rfl,rfl⟩
theorem eiAtom:Ei Tryz.prog 48 162 (.agg #[.string ByteArray.empty,.slice none 0 0]) (rAtom NB).size 40:=⟨by kernel_rfl,by kernel_rfl,rfl⟩
theorem eiCostStep:Ei Tryz.prog 42 205 (.agg #[.int .i64 0,.int .i64 0]) (rCostStep NB).size 16:=⟨by kernel_rfl,by kernel_rfl,rfl⟩
theorem eiPlanStep:Ei Tryz.prog 74 173 (.agg #[.int .i64 0,.int .i64 0,.int .i64 0]) (rPlanStep NB).size 24:=⟨by kernel_rfl,by kernel_rfl,rfl⟩
theorem eiPlan:Ei Tryz.prog 37 76 (.agg #[.slice none 0 0]) (rPlan NB).size 24:=⟨by kernel_rfl,by kernel_rfl,rfl⟩
theorem toIntS_s (A:Option Addr) (n cap:Nat) (l:List Int) (w:World) (hr:RS NB rInt w A n cap l):Calls Tryz.prog 60 #[.slice A n cap] w (RetS 3 rInt l w):=toIntS_c A n cap l w hr
theorem toIntSS_c (A:Option Addr) (n cap:Nat) (l:List (List Int)) (w:World) (hr:RS NB (rSlice NB 3 rInt) w A n cap l):Calls Tryz.prog 103 #[.slice A n cap] w (RetS 30 (rSlice NB 3 rInt) l w):=by
 have hn:=hr.bound;obtain⟨i0,hi,hz0,hz1,hz2⟩:=info_parts eiIntS.hi
 go_enter Tryz.func103,Tryz.ntmps103
 go_wp2_with (at_make;refine wpList_make_full _ rfl _ _ 83 rfl w.heap.size 30 i0 _ _ Tryz.underlying83 hi hz0 hz1 .i64 .i64 _ _ n rfl rfl rfl rfl (by rw [hz2];omega) (by unfold maxLen;omega) (Nat.le_refl _) ?_;intro w1 hown hg)
 go_loopw [4] (fun i wr=>∃ k:Nat,k<=n/\i=.int .i64 k/\MS w.heap.size NB 30 (rSlice NB 3 rInt) wr (some ⟨w.heap.size,0,none⟩) n n (part [] l k)/\Below w.heap.size w wr) (fun i _=>n - (intOf i).toNat)
 case atStart=>exact⟨0,Nat.zero_le _,rfl,MS.madeE (rSlice_ok NB _ rInt_ok) hr.len hr.nb (Nat.le_refl _) eiIntS.hz (fun W=>⟨none,0,0,rfl,rfl,Nat.zero_le _,[],[],World.ownsRow_nil W 0 _ _,rfl,trivial⟩) hown,(Below.refl _ _).grown hg (Nat.le_refl _) (by simp)⟩
 case round =>
  obtain⟨k,hk,rfl,hO,hb⟩:=hrel;by_cases hlt:k<n
  ·obtain⟨b,off,x,cs,rfl,hrep,hcell,hxk⟩:=(hr.below (rSlice_ok NB _ rInt_ok) hb).at_ hlt
   have hrep0:=hrep;obtain⟨Ae,ne,ce,rfl,hre⟩:=hrep;have q0:wr.cell? ⟨b,off+k,none⟩=some (.slice Ae ne ce):=by simpa [rSlice]using hcell 0 _ rfl
   clear hcell;have hlt2:=hO.lt
   go_wp2_with fail
   refine(toIntS_c _ _ _ _ _ hre).mono ?_;rintro e w2 ⟨Aq,nq,cq,rfl,⟨f2,ho2,fr2⟩,hb2⟩;have hO2:=hO.below (rSlice_ok NB _ rInt_ok) hb2;have hfz:=hO2.frozenA;obtain⟨u0q,g0⟩:∃ v,w2.cell? ⟨w.heap.size,k,none⟩=some v:=hO2.hasCell (j:=k) (by simp [rSlice]<;>omega);have hz2:=hb2.size;go_wp2;go_roundw
   case rel=>exact⟨k+1,by omega,by go_num,part_set hxk.out▸(by have:=hO.setE (r:=(rSlice NB 3 rInt)) (rSlice_ok NB _ rInt_ok) hb2 hb.size hlt (cs:=[.slice Aq nq cq]) ⟨Aq,nq,cq,rfl,ho2⟩ fr2;simpa [setCells,rSlice]using this),(hb.trans (hb2.mono hb.size)).setCell (Nat.le_refl _) _⟩
   case measure=>simp [intOf];omega
  ·go_wp2
   go_ret;exact⟨_,_,_,rfl,part_all _ l (k:=k) (by rw [hr.len];exact hlt)▸hO,hb⟩
theorem toAtom_c (cs:List Value) (x:AtomD) (w:World) (h:(rAtom NB).rep w cs x):Calls Tryz.prog 134 #[.agg cs.toArray] w (RetV (rAtom NB) x w):=by
 obtain⟨AVars,nVars,cVars,rfl,hName,hVars⟩:=rAtom_rep.1 h;have hB0:Below w.heap.size w w:=Below.refl _ _
 go_enter Tryz.func134,Tryz.ntmps134
 go_wp2_with fail
 refine(toIntS_c _ _ _ _ _ (hVars.below rInt_ok (bel hB0))).mono ?_;rintro e w1 ⟨AVarsQ,nVarsQ,cVarsQ,rfl,⟨fVars,oVars,frVars⟩,hb1⟩;have lt1:=oVars.lt rInt_ok;have hB1:Below w.heap.size w w1:=Below.trans (bel hB0) (hb1.mono byo);have hO1:Out (w.heap.size+3) w w1:=Out.below outa hb1;have ge1:Fr (w.heap.size+3) (fVars):=frVars.mono byo;have fp1:Fr w.heap.size (fVars):=frVars.mono byo;have hz1:=hb1.size;obtain⟨hc1,hf1⟩:=bcell hb1;simp at hz1 hc1 hf1;have ha1:w.heap.size<w1.heap.size:=by omega
 have hd1:w.heap.size+1<w1.heap.size:=by omega
 have he1:w.heap.size+1+1<w1.heap.size:=by omega
 clear hb1 frVars;go_wp2;refine bodyPost_ret (v:=.agg #[.string x.fName,.slice AVarsQ nVarsQ cVarsQ]) (by simp [results,Tryz.results134,go_sem,hc1,ha1,hd1,he1]) rfl ?_;exact⟨_,fVars,rfl,rAtom_own.2 ⟨AVarsQ,nVarsQ,cVarsQ,fVars,rfl,rfl,hName,(oVars.out rInt_ok ge1 outa)⟩,(fp1),(bel hB1)⟩
theorem toAtomS_c (A:Option Addr) (n cap:Nat) (l:List AtomD) (w:World) (hr:RS NB (rAtom NB) w A n cap l):Calls Tryz.prog 59 #[.slice A n cap] w (RetS 162 (rAtom NB) l w):=by
 have hn:=hr.bound;obtain⟨i0,hi,hz0,hz1,hz2⟩:=info_parts eiAtom.hi
 go_enter Tryz.func59,Tryz.ntmps59
 go_wp2_with (at_make;refine wpList_make_full _ rfl _ _ 48 rfl w.heap.size 162 i0 _ _ Tryz.underlying48 hi hz0 hz1 .i64 .i64 _ _ n rfl rfl rfl rfl (by rw [hz2];omega) (by unfold maxLen;omega) (Nat.le_refl _) ?_;intro w1 hown hg)
 go_loopw [4] (fun i wr=>∃ k:Nat,k<=n/\i=.int .i64 k/\MS w.heap.size NB 162 (rAtom NB) wr (some ⟨w.heap.size,0,none⟩) n n (part zAtom l k)/\Below w.heap.size w wr) (fun i _=>n - (intOf i).toNat)
 case atStart=>exact⟨0,Nat.zero_le _,rfl,MS.madeE (rAtom_ok NB) hr.len hr.nb (Nat.le_refl _) eiAtom.hz (fun W=>zAtom_own W) hown,(Below.refl _ _).grown hg (Nat.le_refl _) (by simp)⟩
 case round =>
  obtain⟨k,hk,rfl,hO,hb⟩:=hrel;by_cases hlt:k<n
  ·obtain⟨b,off,x,cs,rfl,hrep,hcell,hxk⟩:=(hr.below (rAtom_ok NB) hb).at_ hlt
   have hrep0:=hrep;obtain⟨AVars,nVars,cVars,rfl,hName,hVars⟩:=rAtom_rep.1 hrep;have q0:wr.cell? ⟨b,off+k*2,none⟩=some (.string x.fName):=by simpa [rAtom_size]using hcell 0 _ rfl
   have q1:wr.cell? ⟨b,off+k*2+1,none⟩=some (.slice AVars nVars cVars):=by simpa [rAtom_size]using hcell 1 _ rfl
   clear hcell;have hlt2:=hO.lt
   go_wp2_with fail
   refine(toAtom_c _ x _ hrep0).mono ?_;rintro e w2 ⟨cs2,f2,rfl,ho2,fr2,hb2⟩;have ho3:=ho2;obtain⟨AVarsQ,nVarsQ,cVarsQ,fVars,rfl,hfp,hNameQ,oVars⟩:=rAtom_own.1 ho3;clear hfp;have hO2:=hO.below (rAtom_ok NB) hb2;have hfz:=hO2.frozenA;obtain⟨u0q,g0⟩:∃ v,w2.cell? ⟨w.heap.size,k*2,none⟩=some v:=hO2.hasCell (j:=k*2) (by simp [rAtom_size]<;>omega);obtain⟨u1q,g1⟩:∃ v,w2.cell? ⟨w.heap.size,k*2+1,none⟩=some v:=hO2.hasCell (j:=k*2+1) (by simp [rAtom_size]<;>omega);have hz2:=hb2.size;go_wp2;go_roundw
   case rel =>
    refine⟨k+1,by omega,by go_num,?_,?_⟩
    ·rw [<- part_set hxk.out];have hE:=hO.setE (rAtom_ok NB) hb2 hb.size hlt ho2 fr2;exact hE
    ·have hC:=hb.trans (hb2.mono hb.size)
     repeat' (first|exact hC|refine Below.setCell ?_ ?_ _|exact Nat.le_refl _)
   case measure=>simp [intOf];omega
  ·go_wp2
   go_ret;exact⟨_,_,_,rfl,part_all _ l (k:=k) (by rw [hr.len];exact hlt)▸hO,hb⟩
theorem toQuery_c (cs:List Value) (x:QueryD) (w:World) (h:(rQuery NB).rep w cs x):Calls Tryz.prog 12 #[.agg cs.toArray] w (RetV (rQuery NB) x w):=by
 obtain⟨A_e,n_e,c_e,rfl,h_p5,h_e⟩:=rQuery_rep.1 h;have hB0:Below w.heap.size w w:=Below.refl _ _
 go_enter Tryz.func12,Tryz.ntmps12
 go_wp2_with fail
 refine(toAtomS_c _ _ _ _ _ (h_e.below (rAtom_ok NB) (bel hB0))).mono ?_;rintro e w1 ⟨A_eQ,n_eQ,c_eQ,rfl,⟨fAtoms,oAtoms,frAtoms⟩,hb1⟩;have lt1:=oAtoms.lt (rAtom_ok NB);have hB1:Below w.heap.size w w1:=Below.trans (bel hB0) (hb1.mono byo);have hO1:Out (w.heap.size+3) w w1:=Out.below outa hb1;have ge1:Fr (w.heap.size+3) (fAtoms):=frAtoms.mono byo;have fp1:Fr w.heap.size (fAtoms):=frAtoms.mono byo;have hz1:=hb1.size;obtain⟨hc1,hf1⟩:=bcell hb1;simp at hz1 hc1 hf1;have ha1:w.heap.size<w1.heap.size:=by omega
 have hd1:w.heap.size+1<w1.heap.size:=by omega
 have he1:w.heap.size+1+1<w1.heap.size:=by omega
 clear hb1 frAtoms;go_wp2;refine bodyPost_ret (v:=.agg #[.int .i64 x.fVariableCount,.slice A_eQ n_eQ c_eQ]) (by simp [results,Tryz.results12,go_sem,hc1,ha1,hd1,he1]) rfl ?_;exact⟨_,fAtoms,rfl,rQuery_own.2 ⟨A_eQ,n_eQ,c_eQ,fAtoms,rfl,rfl,h_p5,(oAtoms.out (rAtom_ok NB) ge1 outa)⟩,(fp1),(bel hB1)⟩
theorem toBox_c (cs:List Value) (x:BoxD) (w:World) (h:(rBox NB).rep w cs x):Calls Tryz.prog 13 #[.agg cs.toArray] w (RetV (rBox NB) x w):=by
 obtain⟨ALow,nLow,cLow,AHigh,nHigh,cHigh,rfl,hLow,hHigh⟩:=rBox_rep.1 h;have hB0:Below w.heap.size w w:=Below.refl _ _
 go_enter Tryz.func13,Tryz.ntmps13
 go_wp2_with fail
 refine(toIntS_c _ _ _ _ _ (hLow.below rInt_ok (bel hB0))).mono ?_;rintro e w1 ⟨ALowQ,nLowQ,cLowQ,rfl,⟨fLow,oLow,frLow⟩,hb1⟩;have lt1:=oLow.lt rInt_ok;have hB1:Below w.heap.size w w1:=Below.trans (bel hB0) (hb1.mono byo);have hO1:Out (w.heap.size+3) w w1:=Out.below outa hb1;have ge1:Fr (w.heap.size+3) (fLow):=frLow.mono byo;have fp1:Fr w.heap.size (fLow):=frLow.mono byo;have hz1:=hb1.size;obtain⟨hc1,hf1⟩:=bcell hb1;simp at hz1 hc1 hf1;have ha1:w.heap.size<w1.heap.size:=by omega
 have hd1:w.heap.size+1<w1.heap.size:=by omega
 have he1:w.heap.size+1+1<w1.heap.size:=by omega
 clear hb1 frLow
 go_wp2_with fail
 refine(toIntS_c _ _ _ _ _ (hHigh.below rInt_ok (bel hB1))).mono ?_;rintro e w2 ⟨AHighQ,nHighQ,cHighQ,rfl,⟨fHigh,oHigh,frHigh⟩,hb2⟩;have lt2:=oHigh.lt rInt_ok;have hB2:Below w.heap.size w w2:=Below.trans (bel hB1) (hb2.mono byo);have hO2:Out (w.heap.size+3) w1 w2:=Out.below outa hb2;have ge2:Fr (w.heap.size+3) (fHigh):=frHigh.mono byo;have fp2:Fr w1.heap.size (fHigh):=frHigh.mono byo;have oLow:=oLow.out rInt_ok ge1 hO2;have hz2:=hb2.size;obtain⟨hc2,hf2⟩:=bcell hb2;simp at hz2 hc2 hf2;have ha2:w.heap.size<w2.heap.size:=by omega
 have hd2:w.heap.size+1<w2.heap.size:=by omega
 have he2:w.heap.size+1+1<w2.heap.size:=by omega
 clear hb2 frHigh;go_wp2;refine bodyPost_ret (v:=.agg #[.slice ALowQ nLowQ cLowQ,.slice AHighQ nHighQ cHighQ]) (by simp [results,Tryz.results13,go_sem,hc1,hc2,ha1,hd1,he1,ha2,hd2,he2]) rfl ?_;exact⟨_,fLow++(fHigh),rfl,rBox_own.2 ⟨ALowQ,nLowQ,cLowQ,AHighQ,nHighQ,cHighQ,fLow,fHigh,rfl,rfl,(oLow.out rInt_ok ge1 outa),(oHigh.out rInt_ok ge2 outa)⟩,((Fr.append (T:=w1.heap.size) fp1 (fp2) (fun k hk=>by have:=lt1 k hk;omega) (by omega))),(bel hB2)⟩
theorem toCostStep_c (cs:List Value) (x:CostStepD) (w:World) (h:(rCostStep NB).rep w cs x):Calls Tryz.prog 187 #[.agg cs.toArray] w (RetV (rCostStep NB) x w):=by
 obtain⟨rfl,hFrom,hAdd⟩:=rCostStep_rep.1 h;have hB0:Below w.heap.size w w:=Below.refl _ _
 go_enter Tryz.func187,Tryz.ntmps187
 go_wp2;refine bodyPost_ret (v:=.agg #[.int .i64 x.fFrom,.int .i64 x.fAdd]) (by simp [results,Tryz.results187,go_sem]) rfl ?_;exact⟨_,[],rfl,rCostStep_own.2 ⟨rfl,rfl,hFrom,hAdd⟩,(Fr.nil _),(bel hB0)⟩
theorem toCostStepS_c (A:Option Addr) (n cap:Nat) (l:List CostStepD) (w:World) (hr:RS NB (rCostStep NB) w A n cap l):Calls Tryz.prog 133 #[.slice A n cap] w (RetS 205 (rCostStep NB) l w):=by
 have hn:=hr.bound;obtain⟨i0,hi,hz0,hz1,hz2⟩:=info_parts eiCostStep.hi
 go_enter Tryz.func133,Tryz.ntmps133
 go_wp2_with (at_make;refine wpList_make_full _ rfl _ _ 42 rfl w.heap.size 205 i0 _ _ Tryz.underlying42 hi hz0 hz1 .i64 .i64 _ _ n rfl rfl rfl rfl (by rw [hz2];omega) (by unfold maxLen;omega) (Nat.le_refl _) ?_;intro w1 hown hg)
 go_loopw [4] (fun i wr=>∃ k:Nat,k<=n/\i=.int .i64 k/\MS w.heap.size NB 205 (rCostStep NB) wr (some ⟨w.heap.size,0,none⟩) n n (part zCostStep l k)/\Below w.heap.size w wr) (fun i _=>n - (intOf i).toNat)
 case atStart=>exact⟨0,Nat.zero_le _,rfl,MS.madeE (rCostStep_ok NB) hr.len hr.nb (Nat.le_refl _) eiCostStep.hz (fun W=>zCostStep_own W) hown,(Below.refl _ _).grown hg (Nat.le_refl _) (by simp)⟩
 case round =>
  obtain⟨k,hk,rfl,hO,hb⟩:=hrel;by_cases hlt:k<n
  ·obtain⟨b,off,x,cs,rfl,hrep,hcell,hxk⟩:=(hr.below (rCostStep_ok NB) hb).at_ hlt
   have hrep0:=hrep;obtain⟨rfl,hFrom,hAdd⟩:=rCostStep_rep.1 hrep;have q0:wr.cell? ⟨b,off+k*2,none⟩=some (.int .i64 x.fFrom):=by simpa [rCostStep_size]using hcell 0 _ rfl
   have q1:wr.cell? ⟨b,off+k*2+1,none⟩=some (.int .i64 x.fAdd):=by simpa [rCostStep_size]using hcell 1 _ rfl
   clear hcell;have hlt2:=hO.lt
   go_wp2_with fail
   refine(toCostStep_c _ x _ hrep0).mono ?_;rintro e w2 ⟨cs2,f2,rfl,ho2,fr2,hb2⟩;have ho3:=ho2;obtain⟨rfl,hfp,hFromQ,hAddQ⟩:=rCostStep_own.1 ho3;clear hfp;have hO2:=hO.below (rCostStep_ok NB) hb2;have hfz:=hO2.frozenA;obtain⟨u0q,g0⟩:∃ v,w2.cell? ⟨w.heap.size,k*2,none⟩=some v:=hO2.hasCell (j:=k*2) (by simp [rCostStep_size]<;>omega);obtain⟨u1q,g1⟩:∃ v,w2.cell? ⟨w.heap.size,k*2+1,none⟩=some v:=hO2.hasCell (j:=k*2+1) (by simp [rCostStep_size]<;>omega);have hz2:=hb2.size;go_wp2;go_roundw
   case rel =>
    refine⟨k+1,by omega,by go_num,?_,?_⟩
    ·rw [<- part_set hxk.out];have hE:=hO.setE (rCostStep_ok NB) hb2 hb.size hlt ho2 fr2;exact hE
    ·have hC:=hb.trans (hb2.mono hb.size)
     repeat' (first|exact hC|refine Below.setCell ?_ ?_ _|exact Nat.le_refl _)
   case measure=>simp [intOf];omega
  ·go_wp2
   go_ret;exact⟨_,_,_,rfl,part_all _ l (k:=k) (by rw [hr.len];exact hlt)▸hO,hb⟩
theorem toOperator_c (cs:List Value) (x:OperatorD) (w:World) (h:(rOperator NB).rep w cs x):Calls Tryz.prog 58 #[.agg cs.toArray] w (RetV (rOperator NB) x w):=by
 obtain⟨A_d5,n_d5,c_d5,rfl,h_g1,h_t3,h_w3,h_u3,h_v3,h_d5⟩:=rOperator_rep.1 h;have hB0:Below w.heap.size w w:=Below.refl _ _
 go_enter Tryz.func58,Tryz.ntmps58
 go_wp2_with fail
 refine(toCostStepS_c _ _ _ _ _ (h_d5.below (rCostStep_ok NB) (bel hB0))).mono ?_;rintro e w1 ⟨A_d5Q,n_d5Q,c_d5Q,rfl,⟨fSteps,oSteps,frSteps⟩,hb1⟩;have lt1:=oSteps.lt (rCostStep_ok NB);have hB1:Below w.heap.size w w1:=Below.trans (bel hB0) (hb1.mono byo);have hO1:Out (w.heap.size+3) w w1:=Out.below outa hb1;have ge1:Fr (w.heap.size+3) (fSteps):=frSteps.mono byo;have fp1:Fr w.heap.size (fSteps):=frSteps.mono byo;have hz1:=hb1.size;obtain⟨hc1,hf1⟩:=bcell hb1;simp at hz1 hc1 hf1;have ha1:w.heap.size<w1.heap.size:=by omega
 have hd1:w.heap.size+1<w1.heap.size:=by omega
 have he1:w.heap.size+1+1<w1.heap.size:=by omega
 clear hb1 frSteps;go_wp2;refine bodyPost_ret (v:=.agg #[.int .i64 x.fFixed,.int .i64 x.fPerLeft,.int .i64 x.fPerRight,.int .i64 x.fPerOutput,.int .i64 x.fPerPair,.slice A_d5Q n_d5Q c_d5Q]) (by simp [results,Tryz.results58,go_sem,hc1,ha1,hd1,he1]) rfl ?_;exact⟨_,fSteps,rfl,rOperator_own.2 ⟨A_d5Q,n_d5Q,c_d5Q,fSteps,rfl,rfl,h_g1,h_t3,h_w3,h_u3,h_v3,(oSteps.out (rCostStep_ok NB) ge1 outa)⟩,(fp1),(bel hB1)⟩
theorem toPlanStep_c (cs:List Value) (x:PlanStepD) (w:World) (h:(rPlanStep NB).rep w cs x):Calls Tryz.prog 245 #[.agg cs.toArray] w (RetV (rPlanStep NB) x w):=by
 obtain⟨rfl,hKind,h_d,h_s3⟩:=rPlanStep_rep.1 h;have hB0:Below w.heap.size w w:=Below.refl _ _
 go_enter Tryz.func245,Tryz.ntmps245
 go_wp2;refine bodyPost_ret (v:=.agg #[.int .i64 x.fKind,.int .i64 x.fAtom,.int .i64 x.fOrder]) (by simp [results,Tryz.results245,go_sem]) rfl ?_;exact⟨_,[],rfl,rPlanStep_own.2 ⟨rfl,rfl,hKind,h_d,h_s3⟩,(Fr.nil _),(bel hB0)⟩
theorem toPlanStepS_c (A:Option Addr) (n cap:Nat) (l:List PlanStepD) (w:World) (hr:RS NB (rPlanStep NB) w A n cap l):Calls Tryz.prog 223 #[.slice A n cap] w (RetS 173 (rPlanStep NB) l w):=by
 have hn:=hr.bound;obtain⟨i0,hi,hz0,hz1,hz2⟩:=info_parts eiPlanStep.hi
 go_enter Tryz.func223,Tryz.ntmps223
 go_wp2_with (at_make;refine wpList_make_full _ rfl _ _ 74 rfl w.heap.size 173 i0 _ _ Tryz.underlying74 hi hz0 hz1 .i64 .i64 _ _ n rfl rfl rfl rfl (by rw [hz2];omega) (by unfold maxLen;omega) (Nat.le_refl _) ?_;intro w1 hown hg)
 go_loopw [4] (fun i wr=>∃ k:Nat,k<=n/\i=.int .i64 k/\MS w.heap.size NB 173 (rPlanStep NB) wr (some ⟨w.heap.size,0,none⟩) n n (part zPlanStep l k)/\Below w.heap.size w wr) (fun i _=>n - (intOf i).toNat)
 case atStart=>exact⟨0,Nat.zero_le _,rfl,MS.madeE (rPlanStep_ok NB) hr.len hr.nb (Nat.le_refl _) eiPlanStep.hz (fun W=>zPlanStep_own W) hown,(Below.refl _ _).grown hg (Nat.le_refl _) (by simp)⟩
 case round =>
  obtain⟨k,hk,rfl,hO,hb⟩:=hrel;by_cases hlt:k<n
  ·obtain⟨b,off,x,cs,rfl,hrep,hcell,hxk⟩:=(hr.below (rPlanStep_ok NB) hb).at_ hlt
   have hrep0:=hrep;obtain⟨rfl,hKind,h_d,h_s3⟩:=rPlanStep_rep.1 hrep;have q0:wr.cell? ⟨b,off+k*3,none⟩=some (.int .i64 x.fKind):=by simpa [rPlanStep_size]using hcell 0 _ rfl
   have q1:wr.cell? ⟨b,off+k*3+1,none⟩=some (.int .i64 x.fAtom):=by simpa [rPlanStep_size]using hcell 1 _ rfl
   have q2:wr.cell? ⟨b,off+k*3+2,none⟩=some (.int .i64 x.fOrder):=by simpa [rPlanStep_size]using hcell 2 _ rfl
   clear hcell;have hlt2:=hO.lt
   go_wp2_with fail
   refine(toPlanStep_c _ x _ hrep0).mono ?_;rintro e w2 ⟨cs2,f2,rfl,ho2,fr2,hb2⟩;have ho3:=ho2;obtain⟨rfl,hfp,hKindQ,h_dQ,h_s3Q⟩:=rPlanStep_own.1 ho3;clear hfp;have hO2:=hO.below (rPlanStep_ok NB) hb2;have hfz:=hO2.frozenA;obtain⟨u0q,g0⟩:∃ v,w2.cell? ⟨w.heap.size,k*3,none⟩=some v:=hO2.hasCell (j:=k*3) (by simp [rPlanStep_size]<;>omega);obtain⟨u1q,g1⟩:∃ v,w2.cell? ⟨w.heap.size,k*3+1,none⟩=some v:=hO2.hasCell (j:=k*3+1) (by simp [rPlanStep_size]<;>omega);obtain⟨u2q,g2⟩:∃ v,w2.cell? ⟨w.heap.size,k*3+2,none⟩=some v:=hO2.hasCell (j:=k*3+2) (by simp [rPlanStep_size]<;>omega);have hz2:=hb2.size;go_wp2
   go_roundw
   case rel =>
    refine⟨k+1,by omega,by go_num,?_,?_⟩
    ·rw [<- part_set hxk.out];have hE:=hO.setE (rPlanStep_ok NB) hb2 hb.size hlt ho2 fr2;exact hE
    ·have hC:=hb.trans (hb2.mono hb.size)
     repeat' (first|exact hC|refine Below.setCell ?_ ?_ _|exact Nat.le_refl _)
   case measure=>simp [intOf];omega
  ·go_wp2
   go_ret;exact⟨_,_,_,rfl,part_all _ l (k:=k) (by rw [hr.len];exact hlt)▸hO,hb⟩
theorem toPlan_c (cs:List Value) (x:PlanD) (w:World) (h:(rPlan NB).rep w cs x):Calls Tryz.prog 171 #[.agg cs.toArray] w (RetV (rPlan NB) x w):=by
 obtain⟨A_d5,n_d5,c_d5,rfl,h_d5⟩:=rPlan_rep.1 h;have hB0:Below w.heap.size w w:=Below.refl _ _
 go_enter Tryz.func171,Tryz.ntmps171
 go_wp2_with fail
 refine(toPlanStepS_c _ _ _ _ _ (h_d5.below (rPlanStep_ok NB) (bel hB0))).mono ?_;rintro e w1 ⟨A_d5Q,n_d5Q,c_d5Q,rfl,⟨fSteps,oSteps,frSteps⟩,hb1⟩;have lt1:=oSteps.lt (rPlanStep_ok NB);have hB1:Below w.heap.size w w1:=Below.trans (bel hB0) (hb1.mono byo);have hO1:Out (w.heap.size+3) w w1:=Out.below outa hb1;have ge1:Fr (w.heap.size+3) (fSteps):=frSteps.mono byo;have fp1:Fr w.heap.size (fSteps):=frSteps.mono byo;have hz1:=hb1.size;obtain⟨hc1,hf1⟩:=bcell hb1;simp at hz1 hc1 hf1;have ha1:w.heap.size<w1.heap.size:=by omega
 have hd1:w.heap.size+1<w1.heap.size:=by omega
 have he1:w.heap.size+1+1<w1.heap.size:=by omega
 clear hb1 frSteps;go_wp2;refine bodyPost_ret (v:=.agg #[.slice A_d5Q n_d5Q c_d5Q]) (by simp [results,Tryz.results171,go_sem,hc1,ha1,hd1,he1]) rfl ?_;exact⟨_,fSteps,rfl,rPlan_own.2 ⟨A_d5Q,n_d5Q,c_d5Q,fSteps,rfl,rfl,(oSteps.out (rPlanStep_ok NB) ge1 outa)⟩,(fp1),(bel hB1)⟩
theorem toPlanS_c (A:Option Addr) (n cap:Nat) (l:List PlanD) (w:World) (hr:RS NB (rPlan NB) w A n cap l):Calls Tryz.prog 102 #[.slice A n cap] w (RetS 76 (rPlan NB) l w):=by
 have hn:=hr.bound;obtain⟨i0,hi,hz0,hz1,hz2⟩:=info_parts eiPlan.hi
 go_enter Tryz.func102,Tryz.ntmps102
 go_wp2_with (at_make;refine wpList_make_full _ rfl _ _ 37 rfl w.heap.size 76 i0 _ _ Tryz.underlying37 hi hz0 hz1 .i64 .i64 _ _ n rfl rfl rfl rfl (by rw [hz2];omega) (by unfold maxLen;omega) (Nat.le_refl _) ?_;intro w1 hown hg)
 go_loopw [4] (fun i wr=>∃ k:Nat,k<=n/\i=.int .i64 k/\MS w.heap.size NB 76 (rPlan NB) wr (some ⟨w.heap.size,0,none⟩) n n (part zPlan l k)/\Below w.heap.size w wr) (fun i _=>n - (intOf i).toNat)
 case atStart=>exact⟨0,Nat.zero_le _,rfl,MS.madeE (rPlan_ok NB) hr.len hr.nb (Nat.le_refl _) eiPlan.hz (fun W=>zPlan_own W) hown,(Below.refl _ _).grown hg (Nat.le_refl _) (by simp)⟩
 case round =>
  obtain⟨k,hk,rfl,hO,hb⟩:=hrel;by_cases hlt:k<n
  ·obtain⟨b,off,x,cs,rfl,hrep,hcell,hxk⟩:=(hr.below (rPlan_ok NB) hb).at_ hlt
   have hrep0:=hrep;obtain⟨A_d5,n_d5,c_d5,rfl,h_d5⟩:=rPlan_rep.1 hrep;have q0:wr.cell? ⟨b,off+k,none⟩=some (.slice A_d5 n_d5 c_d5):=by simpa [rPlan_size]using hcell 0 _ rfl
   clear hcell;have hlt2:=hO.lt
   go_wp2_with fail
   refine(toPlan_c _ x _ hrep0).mono ?_;rintro e w2 ⟨cs2,f2,rfl,ho2,fr2,hb2⟩;have ho3:=ho2;obtain⟨A_d5Q,n_d5Q,c_d5Q,fSteps,rfl,hfp,oSteps⟩:=rPlan_own.1 ho3;clear hfp;have hO2:=hO.below (rPlan_ok NB) hb2;have hfz:=hO2.frozenA;obtain⟨u0q,g0⟩:∃ v,w2.cell? ⟨w.heap.size,k,none⟩=some v:=hO2.hasCell (j:=k) (by simp [rPlan_size]<;>omega);have hz2:=hb2.size;go_wp2;go_roundw
   case rel =>
    refine⟨k+1,by omega,by go_num,?_,?_⟩
    ·rw [<- part_set hxk.out];have hE:=hO.setE (rPlan_ok NB) hb2 hb.size hlt ho2 fr2;simpa [setCells,rPlan_size]using hE
    ·have hC:=hb.trans (hb2.mono hb.size)
     repeat' (first|exact hC|refine Below.setCell ?_ ?_ _|exact Nat.le_refl _)
   case measure=>simp [intOf];omega
  ·go_wp2
   go_ret;exact⟨_,_,_,rfl,part_all _ l (k:=k) (by rw [hr.len];exact hlt)▸hO,hb⟩
theorem toBouquet_c (cs:List Value) (x:BouquetD) (w:World) (h:(rBouquet NB).rep w cs x):Calls Tryz.prog 40 #[.agg cs.toArray] w (RetV (rBouquet NB) x w):=by
 obtain⟨A_i,n_i,c_i,A_h,n_h,c_h,A_k,n_k,c_k,A_a4,n_a4,c_a4,A_w,n_w,c_w,rfl,h_r5,h_f4,h_v4,h_i,h_h,h_k,h_a4,h_w⟩:=rBouquet_rep.1 h;have hB0:Below w.heap.size w w:=Below.refl _ _
 go_enter Tryz.func40,Tryz.ntmps40
 go_wp2_with fail
 refine(toBox_c _ x.fBox _ ((rBox_ok NB).keep (rBox_rep.2 ⟨A_i,n_i,c_i,A_h,n_h,c_h,rfl,h_i,h_h⟩) (cells_below (bel hB0)))).mono ?_;rintro e w1 ⟨cs1,fp1,rfl,o1,frBox,hb1⟩;have lt1:=(rBox_ok NB).lt o1;obtain⟨A_iQ,n_iQ,c_iQ,A_hQ,n_hQ,c_hQ,fBoxLow,fBoxHigh,rfl,rfl,oBoxLow,oBoxHigh⟩:=rBox_own.1 o1;clear o1;have hB1:Below w.heap.size w w1:=Below.trans (bel hB0) (hb1.mono byo);have hO1:Out (w.heap.size+3) w w1:=Out.below outa hb1;have ge1:Fr (w.heap.size+3) (fBoxLow++(fBoxHigh)):=frBox.mono byo;have fp1:Fr w.heap.size (fBoxLow++(fBoxHigh)):=frBox.mono byo;have ggBoxLow:Fr (w.heap.size+3) fBoxLow:=⟨by have:=ge1.nd;simp only [List.nodup_append,List.append_nil,List.nil_append]at this;grind,fun k hk=>ge1.ge k (by simp [hk])⟩
 have ggBoxHigh:Fr (w.heap.size+3) fBoxHigh:=⟨by have:=ge1.nd;simp only [List.nodup_append,List.append_nil,List.nil_append]at this;grind,fun k hk=>ge1.ge k (by simp [hk])⟩;have hz1:=hb1.size;obtain⟨hc1,hf1⟩:=bcell hb1;simp at hz1 hc1 hf1;have ha1:w.heap.size<w1.heap.size:=by omega
 have hd1:w.heap.size+1<w1.heap.size:=by omega
 have he1:w.heap.size+1+1<w1.heap.size:=by omega
 clear hb1 frBox
 go_wp2_with fail
 refine(toIntS_c _ _ _ _ _ (h_k.below rInt_ok (bel hB1))).mono ?_;rintro e w2 ⟨A_kQ,n_kQ,c_kQ,rfl,⟨fBudgets,oBudgets,frBudgets⟩,hb2⟩;have lt2:=oBudgets.lt rInt_ok;have hB2:Below w.heap.size w w2:=Below.trans (bel hB1) (hb2.mono byo);have hO2:Out (w.heap.size+3) w1 w2:=Out.below outa hb2;have ge2:Fr (w.heap.size+3) (fBudgets):=frBudgets.mono byo;have fp2:Fr w1.heap.size (fBudgets):=frBudgets.mono byo;have oBoxLow:=oBoxLow.out rInt_ok ggBoxLow hO2;have oBoxHigh:=oBoxHigh.out rInt_ok ggBoxHigh hO2;have hz2:=hb2.size;obtain⟨hc2,hf2⟩:=bcell hb2;simp at hz2 hc2 hf2;have ha2:w.heap.size<w2.heap.size:=by omega
 have hd2:w.heap.size+1<w2.heap.size:=by omega
 have he2:w.heap.size+1+1<w2.heap.size:=by omega
 clear hb2 frBudgets
 go_wp2_with fail
 refine(toPlanS_c _ _ _ _ _ (h_a4.below (rPlan_ok NB) (bel hB2))).mono ?_;rintro e w3 ⟨A_a4Q,n_a4Q,c_a4Q,rfl,⟨fPlans,oPlans,frPlans⟩,hb3⟩;have lt3:=oPlans.lt (rPlan_ok NB);have hB3:Below w.heap.size w w3:=Below.trans (bel hB2) (hb3.mono byo);have hO3:Out (w.heap.size+3) w2 w3:=Out.below outa hb3;have ge3:Fr (w.heap.size+3) (fPlans):=frPlans.mono byo;have fp3:Fr w2.heap.size (fPlans):=frPlans.mono byo;have oBoxLow:=oBoxLow.out rInt_ok ggBoxLow hO3;have oBoxHigh:=oBoxHigh.out rInt_ok ggBoxHigh hO3;have oBudgets:=oBudgets.out rInt_ok ge2 hO3;have hz3:=hb3.size;obtain⟨hc3,hf3⟩:=bcell hb3;simp at hz3 hc3 hf3
 have ha3:w.heap.size<w3.heap.size:=by omega
 have hd3:w.heap.size+1<w3.heap.size:=by omega
 have he3:w.heap.size+1+1<w3.heap.size:=by omega
 clear hb3 frPlans
 go_wp2_with fail
 refine(toIntSS_c _ _ _ _ _ (h_w.below (rSlice_ok NB _ rInt_ok) (bel hB3))).mono ?_;rintro e w4 ⟨A_wQ,n_wQ,c_wQ,rfl,⟨fContours,oContours,frContours⟩,hb4⟩;have lt4:=oContours.lt (rSlice_ok NB _ rInt_ok);have hB4:Below w.heap.size w w4:=Below.trans (bel hB3) (hb4.mono byo);have hO4:Out (w.heap.size+3) w3 w4:=Out.below outa hb4;have ge4:Fr (w.heap.size+3) (fContours):=frContours.mono byo;have fp4:Fr w3.heap.size (fContours):=frContours.mono byo;have oBoxLow:=oBoxLow.out rInt_ok ggBoxLow hO4;have oBoxHigh:=oBoxHigh.out rInt_ok ggBoxHigh hO4;have oBudgets:=oBudgets.out rInt_ok ge2 hO4;have oPlans:=oPlans.out (rPlan_ok NB) ge3 hO4
 have hz4:=hb4.size;obtain⟨hc4,hf4⟩:=bcell hb4;simp at hz4 hc4 hf4;have ha4:w.heap.size<w4.heap.size:=by omega
 have hd4:w.heap.size+1<w4.heap.size:=by omega
 have he4:w.heap.size+1+1<w4.heap.size:=by omega
 clear hb4 frContours;go_wp2;refine bodyPost_ret (v:=.agg #[.int .i64 x.fVersion,.int .i64 x.fRatio,.int .i64 x.fSlack,.slice A_iQ n_iQ c_iQ,.slice A_hQ n_hQ c_hQ,.slice A_kQ n_kQ c_kQ,.slice A_a4Q n_a4Q c_a4Q,.slice A_wQ n_wQ c_wQ]) (by simp [results,Tryz.results40,go_sem,hc1,hc2,hc3,hc4,ha1,hd1,he1,ha2,hd2,he2,ha3,hd3,he3,ha4,hd4,he4]) rfl ?_;exact⟨_,(fBoxLow++(fBoxHigh))++(fBudgets++(fPlans++(fContours))),rfl,rBouquet_own.2 ⟨A_iQ,n_iQ,c_iQ,A_hQ,n_hQ,c_hQ,A_kQ,n_kQ,c_kQ,A_a4Q,n_a4Q,c_a4Q,A_wQ,n_wQ,c_wQ,fBoxLow,fBoxHigh,fBudgets,fPlans,fContours,rfl,rfl,h_r5,h_f4,h_v4,(oBoxLow.out rInt_ok ggBoxLow outa),(oBoxHigh.out rInt_ok ggBoxHigh outa),(oBudgets.out rInt_ok ge2 outa),(oPlans.out (rPlan_ok NB) ge3 outa),(oContours.out (rSlice_ok NB _ rInt_ok) ge4 outa)⟩,((Fr.append (T:=w1.heap.size) fp1 ((Fr.append (T:=w2.heap.size) fp2 ((Fr.append (T:=w3.heap.size) fp3 (fp4) (fun k hk=>by have:=lt3 k hk;omega) (by omega))) (fun k hk=>by have:=lt2 k hk;omega) (by omega))) (fun k hk=>by have:=lt1 k hk;omega) (by omega))),(bel hB4)⟩
end Go.Proofs.YtnlcfkpcmfljeaaGreat
