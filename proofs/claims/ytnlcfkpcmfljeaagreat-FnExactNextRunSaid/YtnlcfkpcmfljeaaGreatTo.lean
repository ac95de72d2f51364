/-
  To
-/
import Derived.Test.YtnlcfkpcmfljeaaGreatTypes
set_option linter.unusedSimpArgs false
set_option linter.unusedVariables false
set_option maxHeartbeats 800000
namespace Go.Proofs.YtnlcfkpcmfljeaaGreat
open Go.RowKit
theorem eiIntS:Ei Tryz.prog 83 30 (.slice none 0 0) (rSlice NB 3 rInt).size 24:=⟨by kernel_rfl,by kernel_rfl,rfl⟩
theorem eiAtom:Ei Tryz.prog 48 162 (.agg #[.string ByteArray.empty,.slice none 0 0]) (rAtom NB).size 40:=⟨by kernel_rfl,by kernel_rfl,rfl⟩
theorem eiCostStep:Ei Tryz.prog 42 205 (.agg #[.int .i64 0,.int .i64 0]) (rCostStep NB).size 16:=⟨by kernel_rfl,by kernel_rfl,rfl⟩
theorem eiPlanStep:Ei Tryz.prog 74 173 (.agg #[.int .i64 0,.int .i64 0,.int .i64 0]) (rPlanStep NB).size 24:=⟨by kernel_rfl,by kernel_rfl,rfl⟩
theorem eiPlan:Ei Tryz.prog 37 76 (.agg #[.slice none 0 0]) (rPlan NB).size 24:=⟨by kernel_rfl,by kernel_rfl,rfl⟩
theorem toIntS_s (A:Option Addr) (n cap:Nat) (l:List Int) (w:World) (hr:RS NB rInt w A n cap l):Calls Tryz.prog 60 #[.slice A n cap] w (RetS 3 rInt l w):=toIntS_c A n cap l w hr
theorem toIntSS_c (A:Option Addr) (n cap:Nat) (l:List (List Int)) (w:World) (hr:RS NB (rSlice NB 3 rInt) w A n cap l):Calls Tryz.prog 103 #[.slice A n cap] w (RetS 30 (rSlice NB 3 rInt) l w):=by
 have hn:=hr.bound
 obtain⟨i0,hi,hz0,hz1,hz2⟩:=info_parts eiIntS.hi
 go_enter Tryz.func103,Tryz.ntmps103
 go_wp2_with (at_make;refine wpList_make_full _ rfl _ _ 83 rfl w.heap.size 30 i0 _ _ Tryz.underlying83 hi hz0 hz1 .i64 .i64 _ _ n rfl rfl rfl rfl (by rw [hz2];omega) (by unfold maxLen;omega) (Nat.le_refl _) ?_;intro w1 hown hg)
 go_loopw [4] (fun i wr=>∃ k:Nat,k<=n/\i=.int .i64 k/\MS w.heap.size NB 30 (rSlice NB 3 rInt) wr (some ⟨w.heap.size,0,none⟩) n n (part [] l k)/\Below w.heap.size w wr) (fun i _=>n - (intOf i).toNat)
 case atStart=>exact⟨0,Nat.zero_le _,rfl,MS.madeE (rSlice_ok NB _ rInt_ok) hr.len hr.nb (Nat.le_refl _) eiIntS.hz (fun W=>⟨none,0,0,rfl,rfl,Nat.zero_le _,[],[],World.ownsRow_nil W 0 _ _,rfl,trivial⟩) hown,(Below.refl _ _).grown hg (Nat.le_refl _) (by simp)⟩
 case round =>
  obtain⟨k,hk,rfl,hO,hb⟩:=hrel
  by_cases hlt:k<n
  ·obtain⟨b,off,x,cs,rfl,hrep,hcell,hxk⟩:=(hr.below (rSlice_ok NB _ rInt_ok) hb).at_ hlt
   have hrep0:=hrep
   obtain⟨Ae,ne,ce,rfl,hre⟩:=hrep
   have q0:wr.cell? ⟨b,off+k,none⟩=some (.slice Ae ne ce):=by simpa [rSlice]using hcell 0 _ rfl
   clear hcell
   have hlt2:=hO.lt
   go_wp2_with fail
   refine(toIntS_c _ _ _ _ _ hre).mono ?_
   rintro e w2 ⟨Aq,nq,cq,rfl,⟨f2,ho2,fr2⟩,hb2⟩
   have hO2:=hO.below (rSlice_ok NB _ rInt_ok) hb2
   have hfz:=hO2.frozenA
   obtain⟨u0q,g0⟩:∃ v,w2.cell? ⟨w.heap.size,k,none⟩=some v:=hO2.hasCell (j:=k) (by simp [rSlice]<;>omega)
   have hz2:=hb2.size
   go_wp2
   go_roundw
   case rel=>exact⟨k+1,by omega,by go_num,part_set hxk.out▸(by have:=hO.setE (r:=(rSlice NB 3 rInt)) (rSlice_ok NB _ rInt_ok) hb2 hb.size hlt (cs:=[.slice Aq nq cq]) ⟨Aq,nq,cq,rfl,ho2⟩ fr2;simpa [setCells,rSlice]using this),(hb.trans (hb2.mono hb.size)).setCell (Nat.le_refl _) _⟩
   case measure=>simp [intOf];omega
  ·go_wp2
   go_ret
   exact⟨_,_,_,rfl,part_all _ l (k:=k) (by rw [hr.len];exact hlt)▸hO,hb⟩
theorem toAtom_c (cs:List Value) (x:AtomD) (w:World) (h:(rAtom NB).rep w cs x):Calls Tryz.prog 134 #[.agg cs.toArray] w (RetV (rAtom NB) x w):=by
 obtain⟨AVars,nVars,cVars,rfl,hName,hVars⟩:=rAtom_rep.1 h
 have hB0:Below w.heap.size w w:=Below.refl _ _
 go_enter Tryz.func134,Tryz.ntmps134
 go_wp2_with fail
 refine(toIntS_c _ _ _ _ _ (hVars.below rInt_ok (by repeat' (first|with_reducible exact hB0|with_reducible refine Below.setCell ?_ ?_ _|with_reducible refine Below.alloc ?_ ?_ _|(simp;done)|(simp;omega)|omega)))).mono ?_
 rintro e w1 ⟨AVarsQ,nVarsQ,cVarsQ,rfl,⟨fVars,oVars,frVars⟩,hb1⟩
 have lt1:=oVars.lt rInt_ok
 have hB1:Below w.heap.size w w1:=Below.trans (by repeat' (first|with_reducible exact hB0|with_reducible refine Below.setCell ?_ ?_ _|with_reducible refine Below.alloc ?_ ?_ _|(simp;done)|(simp;omega)|omega)) (hb1.mono (by first|(simp;done)|(simp;omega)|omega))
 have hO1:Out (w.heap.size+3) w w1:=Out.below (by repeat' (first|with_reducible exact Out.refl _ _|with_reducible refine Out.setCell ?_ ?_ _|with_reducible refine Out.alloc ?_ _|(simp;done)|(simp;omega)|omega)) hb1
 have ge1:Fr (w.heap.size+3) (fVars):=frVars.mono (by first|(simp;done)|(simp;omega)|omega)
 have fp1:Fr w.heap.size (fVars):=frVars.mono (by first|(simp;done)|(simp;omega)|omega)
 have hz1:=hb1.size
 obtain⟨hc1,hf1⟩:=bcell hb1
 simp at hz1 hc1 hf1
 have ha1:w.heap.size<w1.heap.size:=by omega
 have hd1:w.heap.size+1<w1.heap.size:=by omega
 have he1:w.heap.size+1+1<w1.heap.size:=by omega
 clear hb1 frVars
 go_wp2
 refine bodyPost_ret (v:=.agg #[.string x.fName,.slice AVarsQ nVarsQ cVarsQ]) (by simp [results,Tryz.results134,go_sem,hc1,ha1,hd1,he1]) rfl ?_
 exact⟨_,fVars,rfl,rAtom_own.2 ⟨AVarsQ,nVarsQ,cVarsQ,fVars,rfl,rfl,hName,(oVars.out rInt_ok ge1 (by repeat' (first|with_reducible exact Out.refl _ _|with_reducible refine Out.setCell ?_ ?_ _|with_reducible refine Out.alloc ?_ _|(simp;done)|(simp;omega)|omega)))⟩,(fp1),(by repeat' (first|with_reducible exact hB1|with_reducible refine Below.setCell ?_ ?_ _|with_reducible refine Below.alloc ?_ ?_ _|(simp;done)|(simp;omega)|omega))⟩
theorem toAtomS_c (A:Option Addr) (n cap:Nat) (l:List AtomD) (w:World) (hr:RS NB (rAtom NB) w A n cap l):Calls Tryz.prog 59 #[.slice A n cap] w (RetS 162 (rAtom NB) l w):=by
 have hn:=hr.bound
 obtain⟨i0,hi,hz0,hz1,hz2⟩:=info_parts eiAtom.hi
 go_enter Tryz.func59,Tryz.ntmps59
 go_wp2_with (at_make;refine wpList_make_full _ rfl _ _ 48 rfl w.heap.size 162 i0 _ _ Tryz.underlying48 hi hz0 hz1 .i64 .i64 _ _ n rfl rfl rfl rfl (by rw [hz2];omega) (by unfold maxLen;omega) (Nat.le_refl _) ?_;intro w1 hown hg)
 go_loopw [4] (fun i wr=>∃ k:Nat,k<=n/\i=.int .i64 k/\MS w.heap.size NB 162 (rAtom NB) wr (some ⟨w.heap.size,0,none⟩) n n (part zAtom l k)/\Below w.heap.size w wr) (fun i _=>n - (intOf i).toNat)
 case atStart=>exact⟨0,Nat.zero_le _,rfl,MS.madeE (rAtom_ok NB) hr.len hr.nb (Nat.le_refl _) eiAtom.hz (fun W=>zAtom_own W) hown,(Below.refl _ _).grown hg (Nat.le_refl _) (by simp)⟩
 case round =>
  obtain⟨k,hk,rfl,hO,hb⟩:=hrel
  by_cases hlt:k<n
  ·obtain⟨b,off,x,cs,rfl,hrep,hcell,hxk⟩:=(hr.below (rAtom_ok NB) hb).at_ hlt
   have hrep0:=hrep
   obtain⟨AVars,nVars,cVars,rfl,hName,hVars⟩:=rAtom_rep.1 hrep
   have q0:wr.cell? ⟨b,off+k*2,none⟩=some (.string x.fName):=by simpa [rAtom_size]using hcell 0 _ rfl
   have q1:wr.cell? ⟨b,off+k*2+1,none⟩=some (.slice AVars nVars cVars):=by simpa [rAtom_size]using hcell 1 _ rfl
   clear hcell
   have hlt2:=hO.lt
   go_wp2_with fail
   refine(toAtom_c _ x _ hrep0).mono ?_
   rintro e w2 ⟨cs2,f2,rfl,ho2,fr2,hb2⟩
   have ho3:=ho2
   obtain⟨AVarsQ,nVarsQ,cVarsQ,fVars,rfl,hfp,hNameQ,oVars⟩:=rAtom_own.1 ho3
   clear hfp
   have hO2:=hO.below (rAtom_ok NB) hb2
   have hfz:=hO2.frozenA
   obtain⟨u0q,g0⟩:∃ v,w2.cell? ⟨w.heap.size,k*2,none⟩=some v:=hO2.hasCell (j:=k*2) (by simp [rAtom_size]<;>omega)
   obtain⟨u1q,g1⟩:∃ v,w2.cell? ⟨w.heap.size,k*2+1,none⟩=some v:=hO2.hasCell (j:=k*2+1) (by simp [rAtom_size]<;>omega)
   have hz2:=hb2.size
   go_wp2
   go_roundw
   case rel =>
    refine⟨k+1,by omega,by go_num,?_,?_⟩
    ·rw [<- part_set hxk.out];have hE:=hO.setE (rAtom_ok NB) hb2 hb.size hlt ho2 fr2;exact hE
    ·have hC:=hb.trans (hb2.mono hb.size)
     repeat' (first|exact hC|refine Below.setCell ?_ ?_ _|exact Nat.le_refl _)
   case measure=>simp [intOf];omega
  ·go_wp2
   go_ret
   exact⟨_,_,_,rfl,part_all _ l (k:=k) (by rw [hr.len];exact hlt)▸hO,hb⟩
theorem toQuery_c (cs:List Value) (x:QueryD) (w:World) (h:(rQuery NB).rep w cs x):Calls Tryz.prog 12 #[.agg cs.toArray] w (RetV (rQuery NB) x w):=by
 obtain⟨AAtoms,nAtoms,cAtoms,rfl,hVariableCount,hAtoms⟩:=rQuery_rep.1 h
 have hB0:Below w.heap.size w w:=Below.refl _ _
 go_enter Tryz.func12,Tryz.ntmps12
 go_wp2_with fail
 refine(toAtomS_c _ _ _ _ _ (hAtoms.below (rAtom_ok NB) (by repeat' (first|with_reducible exact hB0|with_reducible refine Below.setCell ?_ ?_ _|with_reducible refine Below.alloc ?_ ?_ _|(simp;done)|(simp;omega)|omega)))).mono ?_
 rintro e w1 ⟨AAtomsQ,nAtomsQ,cAtomsQ,rfl,⟨fAtoms,oAtoms,frAtoms⟩,hb1⟩
 have lt1:=oAtoms.lt (rAtom_ok NB)
 have hB1:Below w.heap.size w w1:=Below.trans (by repeat' (first|with_reducible exact hB0|with_reducible refine Below.setCell ?_ ?_ _|with_reducible refine Below.alloc ?_ ?_ _|(simp;done)|(simp;omega)|omega)) (hb1.mono (by first|(simp;done)|(simp;omega)|omega))
 have hO1:Out (w.heap.size+3) w w1:=Out.below (by repeat' (first|with_reducible exact Out.refl _ _|with_reducible refine Out.setCell ?_ ?_ _|with_reducible refine Out.alloc ?_ _|(simp;done)|(simp;omega)|omega)) hb1
 have ge1:Fr (w.heap.size+3) (fAtoms):=frAtoms.mono (by first|(simp;done)|(simp;omega)|omega)
 have fp1:Fr w.heap.size (fAtoms):=frAtoms.mono (by first|(simp;done)|(simp;omega)|omega)
 have hz1:=hb1.size
 obtain⟨hc1,hf1⟩:=bcell hb1
 simp at hz1 hc1 hf1
 have ha1:w.heap.size<w1.heap.size:=by omega
 have hd1:w.heap.size+1<w1.heap.size:=by omega
 have he1:w.heap.size+1+1<w1.heap.size:=by omega
 clear hb1 frAtoms
 go_wp2
 refine bodyPost_ret (v:=.agg #[.int .i64 x.fVariableCount,.slice AAtomsQ nAtomsQ cAtomsQ]) (by simp [results,Tryz.results12,go_sem,hc1,ha1,hd1,he1]) rfl ?_
 exact⟨_,fAtoms,rfl,rQuery_own.2 ⟨AAtomsQ,nAtomsQ,cAtomsQ,fAtoms,rfl,rfl,hVariableCount,(oAtoms.out (rAtom_ok NB) ge1 (by repeat' (first|with_reducible exact Out.refl _ _|with_reducible refine Out.setCell ?_ ?_ _|with_reducible refine Out.alloc ?_ _|(simp;done)|(simp;omega)|omega)))⟩,(fp1),(by repeat' (first|with_reducible exact hB1|with_reducible refine Below.setCell ?_ ?_ _|with_reducible refine Below.alloc ?_ ?_ _|(simp;done)|(simp;omega)|omega))⟩
theorem toBox_c (cs:List Value) (x:BoxD) (w:World) (h:(rBox NB).rep w cs x):Calls Tryz.prog 13 #[.agg cs.toArray] w (RetV (rBox NB) x w):=by
 obtain⟨ALow,nLow,cLow,AHigh,nHigh,cHigh,rfl,hLow,hHigh⟩:=rBox_rep.1 h
 have hB0:Below w.heap.size w w:=Below.refl _ _
 go_enter Tryz.func13,Tryz.ntmps13
 go_wp2_with fail
 refine(toIntS_c _ _ _ _ _ (hLow.below rInt_ok (by repeat' (first|with_reducible exact hB0|with_reducible refine Below.setCell ?_ ?_ _|with_reducible refine Below.alloc ?_ ?_ _|(simp;done)|(simp;omega)|omega)))).mono ?_
 rintro e w1 ⟨ALowQ,nLowQ,cLowQ,rfl,⟨fLow,oLow,frLow⟩,hb1⟩
 have lt1:=oLow.lt rInt_ok
 have hB1:Below w.heap.size w w1:=Below.trans (by repeat' (first|with_reducible exact hB0|with_reducible refine Below.setCell ?_ ?_ _|with_reducible refine Below.alloc ?_ ?_ _|(simp;done)|(simp;omega)|omega)) (hb1.mono (by first|(simp;done)|(simp;omega)|omega))
 have hO1:Out (w.heap.size+3) w w1:=Out.below (by repeat' (first|with_reducible exact Out.refl _ _|with_reducible refine Out.setCell ?_ ?_ _|with_reducible refine Out.alloc ?_ _|(simp;done)|(simp;omega)|omega)) hb1
 have ge1:Fr (w.heap.size+3) (fLow):=frLow.mono (by first|(simp;done)|(simp;omega)|omega)
 have fp1:Fr w.heap.size (fLow):=frLow.mono (by first|(simp;done)|(simp;omega)|omega)
 have hz1:=hb1.size
 obtain⟨hc1,hf1⟩:=bcell hb1
 simp at hz1 hc1 hf1
 have ha1:w.heap.size<w1.heap.size:=by omega
 have hd1:w.heap.size+1<w1.heap.size:=by omega
 have he1:w.heap.size+1+1<w1.heap.size:=by omega
 clear hb1 frLow
 go_wp2_with fail
 refine(toIntS_c _ _ _ _ _ (hHigh.below rInt_ok (by repeat' (first|with_reducible exact hB1|with_reducible refine Below.setCell ?_ ?_ _|with_reducible refine Below.alloc ?_ ?_ _|(simp;done)|(simp;omega)|omega)))).mono ?_
 rintro e w2 ⟨AHighQ,nHighQ,cHighQ,rfl,⟨fHigh,oHigh,frHigh⟩,hb2⟩
 have lt2:=oHigh.lt rInt_ok
 have hB2:Below w.heap.size w w2:=Below.trans (by repeat' (first|with_reducible exact hB1|with_reducible refine Below.setCell ?_ ?_ _|with_reducible refine Below.alloc ?_ ?_ _|(simp;done)|(simp;omega)|omega)) (hb2.mono (by first|(simp;done)|(simp;omega)|omega))
 have hO2:Out (w.heap.size+3) w1 w2:=Out.below (by repeat' (first|with_reducible exact Out.refl _ _|with_reducible refine Out.setCell ?_ ?_ _|with_reducible refine Out.alloc ?_ _|(simp;done)|(simp;omega)|omega)) hb2
 have ge2:Fr (w.heap.size+3) (fHigh):=frHigh.mono (by first|(simp;done)|(simp;omega)|omega)
 have fp2:Fr w1.heap.size (fHigh):=frHigh.mono (by first|(simp;done)|(simp;omega)|omega)
 have oLow:=oLow.out rInt_ok ge1 hO2
 have hz2:=hb2.size
 obtain⟨hc2,hf2⟩:=bcell hb2
 simp at hz2 hc2 hf2
 have ha2:w.heap.size<w2.heap.size:=by omega
 have hd2:w.heap.size+1<w2.heap.size:=by omega
 have he2:w.heap.size+1+1<w2.heap.size:=by omega
 clear hb2 frHigh
 go_wp2
 refine bodyPost_ret (v:=.agg #[.slice ALowQ nLowQ cLowQ,.slice AHighQ nHighQ cHighQ]) (by simp [results,Tryz.results13,go_sem,hc1,hc2,ha1,hd1,he1,ha2,hd2,he2]) rfl ?_
 exact⟨_,fLow++(fHigh),rfl,rBox_own.2 ⟨ALowQ,nLowQ,cLowQ,AHighQ,nHighQ,cHighQ,fLow,fHigh,rfl,rfl,(oLow.out rInt_ok ge1 (by repeat' (first|with_reducible exact Out.refl _ _|with_reducible refine Out.setCell ?_ ?_ _|with_reducible refine Out.alloc ?_ _|(simp;done)|(simp;omega)|omega))),(oHigh.out rInt_ok ge2 (by repeat' (first|with_reducible exact Out.refl _ _|with_reducible refine Out.setCell ?_ ?_ _|with_reducible refine Out.alloc ?_ _|(simp;done)|(simp;omega)|omega)))⟩,((Fr.append (T:=w1.heap.size) fp1 (fp2) (fun k hk=>by have:=lt1 k hk;omega) (by omega))),(by repeat' (first|with_reducible exact hB2|with_reducible refine Below.setCell ?_ ?_ _|with_reducible refine Below.alloc ?_ ?_ _|(simp;done)|(simp;omega)|omega))⟩
theorem toCostStep_c (cs:List Value) (x:CostStepD) (w:World) (h:(rCostStep NB).rep w cs x):Calls Tryz.prog 187 #[.agg cs.toArray] w (RetV (rCostStep NB) x w):=by
 obtain⟨rfl,hFrom,hAdd⟩:=rCostStep_rep.1 h
 have hB0:Below w.heap.size w w:=Below.refl _ _
 go_enter Tryz.func187,Tryz.ntmps187
 go_wp2
 refine bodyPost_ret (v:=.agg #[.int .i64 x.fFrom,.int .i64 x.fAdd]) (by simp [results,Tryz.results187,go_sem]) rfl ?_
 exact⟨_,[],rfl,rCostStep_own.2 ⟨rfl,rfl,hFrom,hAdd⟩,(Fr.nil _),(by repeat' (first|with_reducible exact hB0|with_reducible refine Below.setCell ?_ ?_ _|with_reducible refine Below.alloc ?_ ?_ _|(simp;done)|(simp;omega)|omega))⟩
theorem toCostStepS_c (A:Option Addr) (n cap:Nat) (l:List CostStepD) (w:World) (hr:RS NB (rCostStep NB) w A n cap l):Calls Tryz.prog 133 #[.slice A n cap] w (RetS 205 (rCostStep NB) l w):=by
 have hn:=hr.bound
 obtain⟨i0,hi,hz0,hz1,hz2⟩:=info_parts eiCostStep.hi
 go_enter Tryz.func133,Tryz.ntmps133
 go_wp2_with (at_make;refine wpList_make_full _ rfl _ _ 42 rfl w.heap.size 205 i0 _ _ Tryz.underlying42 hi hz0 hz1 .i64 .i64 _ _ n rfl rfl rfl rfl (by rw [hz2];omega) (by unfold maxLen;omega) (Nat.le_refl _) ?_;intro w1 hown hg)
 go_loopw [4] (fun i wr=>∃ k:Nat,k<=n/\i=.int .i64 k/\MS w.heap.size NB 205 (rCostStep NB) wr (some ⟨w.heap.size,0,none⟩) n n (part zCostStep l k)/\Below w.heap.size w wr) (fun i _=>n - (intOf i).toNat)
 case atStart=>exact⟨0,Nat.zero_le _,rfl,MS.madeE (rCostStep_ok NB) hr.len hr.nb (Nat.le_refl _) eiCostStep.hz (fun W=>zCostStep_own W) hown,(Below.refl _ _).grown hg (Nat.le_refl _) (by simp)⟩
 case round =>
  obtain⟨k,hk,rfl,hO,hb⟩:=hrel
  by_cases hlt:k<n
  ·obtain⟨b,off,x,cs,rfl,hrep,hcell,hxk⟩:=(hr.below (rCostStep_ok NB) hb).at_ hlt
   have hrep0:=hrep
   obtain⟨rfl,hFrom,hAdd⟩:=rCostStep_rep.1 hrep
   have q0:wr.cell? ⟨b,off+k*2,none⟩=some (.int .i64 x.fFrom):=by simpa [rCostStep_size]using hcell 0 _ rfl
   have q1:wr.cell? ⟨b,off+k*2+1,none⟩=some (.int .i64 x.fAdd):=by simpa [rCostStep_size]using hcell 1 _ rfl
   clear hcell
   have hlt2:=hO.lt
   go_wp2_with fail
   refine(toCostStep_c _ x _ hrep0).mono ?_
   rintro e w2 ⟨cs2,f2,rfl,ho2,fr2,hb2⟩
   have ho3:=ho2
   obtain⟨rfl,hfp,hFromQ,hAddQ⟩:=rCostStep_own.1 ho3
   clear hfp
   have hO2:=hO.below (rCostStep_ok NB) hb2
   have hfz:=hO2.frozenA
   obtain⟨u0q,g0⟩:∃ v,w2.cell? ⟨w.heap.size,k*2,none⟩=some v:=hO2.hasCell (j:=k*2) (by simp [rCostStep_size]<;>omega)
   obtain⟨u1q,g1⟩:∃ v,w2.cell? ⟨w.heap.size,k*2+1,none⟩=some v:=hO2.hasCell (j:=k*2+1) (by simp [rCostStep_size]<;>omega)
   have hz2:=hb2.size
   go_wp2
   go_roundw
   case rel =>
    refine⟨k+1,by omega,by go_num,?_,?_⟩
    ·rw [<- part_set hxk.out];have hE:=hO.setE (rCostStep_ok NB) hb2 hb.size hlt ho2 fr2;exact hE
    ·have hC:=hb.trans (hb2.mono hb.size)
     repeat' (first|exact hC|refine Below.setCell ?_ ?_ _|exact Nat.le_refl _)
   case measure=>simp [intOf];omega
  ·go_wp2
   go_ret
   exact⟨_,_,_,rfl,part_all _ l (k:=k) (by rw [hr.len];exact hlt)▸hO,hb⟩
theorem toOperator_c (cs:List Value) (x:OperatorD) (w:World) (h:(rOperator NB).rep w cs x):Calls Tryz.prog 58 #[.agg cs.toArray] w (RetV (rOperator NB) x w):=by
 obtain⟨ASteps,nSteps,cSteps,rfl,hFixed,hPerLeft,hPerRight,hPerOutput,hPerPair,hSteps⟩:=rOperator_rep.1 h
 have hB0:Below w.heap.size w w:=Below.refl _ _
 go_enter Tryz.func58,Tryz.ntmps58
 go_wp2_with fail
 refine(toCostStepS_c _ _ _ _ _ (hSteps.below (rCostStep_ok NB) (by repeat' (first|with_reducible exact hB0|with_reducible refine Below.setCell ?_ ?_ _|with_reducible refine Below.alloc ?_ ?_ _|(simp;done)|(simp;omega)|omega)))).mono ?_
 rintro e w1 ⟨AStepsQ,nStepsQ,cStepsQ,rfl,⟨fSteps,oSteps,frSteps⟩,hb1⟩
 have lt1:=oSteps.lt (rCostStep_ok NB)
 have hB1:Below w.heap.size w w1:=Below.trans (by repeat' (first|with_reducible exact hB0|with_reducible refine Below.setCell ?_ ?_ _|with_reducible refine Below.alloc ?_ ?_ _|(simp;done)|(simp;omega)|omega)) (hb1.mono (by first|(simp;done)|(simp;omega)|omega))
 have hO1:Out (w.heap.size+3) w w1:=Out.below (by repeat' (first|with_reducible exact Out.refl _ _|with_reducible refine Out.setCell ?_ ?_ _|with_reducible refine Out.alloc ?_ _|(simp;done)|(simp;omega)|omega)) hb1
 have ge1:Fr (w.heap.size+3) (fSteps):=frSteps.mono (by first|(simp;done)|(simp;omega)|omega)
 have fp1:Fr w.heap.size (fSteps):=frSteps.mono (by first|(simp;done)|(simp;omega)|omega)
 have hz1:=hb1.size
 obtain⟨hc1,hf1⟩:=bcell hb1
 simp at hz1 hc1 hf1
 have ha1:w.heap.size<w1.heap.size:=by omega
 have hd1:w.heap.size+1<w1.heap.size:=by omega
 have he1:w.heap.size+1+1<w1.heap.size:=by omega
 clear hb1 frSteps
 go_wp2
 refine bodyPost_ret (v:=.agg #[.int .i64 x.fFixed,.int .i64 x.fPerLeft,.int .i64 x.fPerRight,.int .i64 x.fPerOutput,.int .i64 x.fPerPair,.slice AStepsQ nStepsQ cStepsQ]) (by simp [results,Tryz.results58,go_sem,hc1,ha1,hd1,he1]) rfl ?_
 exact⟨_,fSteps,rfl,rOperator_own.2 ⟨AStepsQ,nStepsQ,cStepsQ,fSteps,rfl,rfl,hFixed,hPerLeft,hPerRight,hPerOutput,hPerPair,(oSteps.out (rCostStep_ok NB) ge1 (by repeat' (first|with_reducible exact Out.refl _ _|with_reducible refine Out.setCell ?_ ?_ _|with_reducible refine Out.alloc ?_ _|(simp;done)|(simp;omega)|omega)))⟩,(fp1),(by repeat' (first|with_reducible exact hB1|with_reducible refine Below.setCell ?_ ?_ _|with_reducible refine Below.alloc ?_ ?_ _|(simp;done)|(simp;omega)|omega))⟩
theorem toPlanStep_c (cs:List Value) (x:PlanStepD) (w:World) (h:(rPlanStep NB).rep w cs x):Calls Tryz.prog 245 #[.agg cs.toArray] w (RetV (rPlanStep NB) x w):=by
 obtain⟨rfl,hKind,hAtom,hOrder⟩:=rPlanStep_rep.1 h
 have hB0:Below w.heap.size w w:=Below.refl _ _
 go_enter Tryz.func245,Tryz.ntmps245
 go_wp2
 refine bodyPost_ret (v:=.agg #[.int .i64 x.fKind,.int .i64 x.fAtom,.int .i64 x.fOrder]) (by simp [results,Tryz.results245,go_sem]) rfl ?_
 exact⟨_,[],rfl,rPlanStep_own.2 ⟨rfl,rfl,hKind,hAtom,hOrder⟩,(Fr.nil _),(by repeat' (first|with_reducible exact hB0|with_reducible refine Below.setCell ?_ ?_ _|with_reducible refine Below.alloc ?_ ?_ _|(simp;done)|(simp;omega)|omega))⟩
theorem toPlanStepS_c (A:Option Addr) (n cap:Nat) (l:List PlanStepD) (w:World) (hr:RS NB (rPlanStep NB) w A n cap l):Calls Tryz.prog 223 #[.slice A n cap] w (RetS 173 (rPlanStep NB) l w):=by
 have hn:=hr.bound
 obtain⟨i0,hi,hz0,hz1,hz2⟩:=info_parts eiPlanStep.hi
 go_enter Tryz.func223,Tryz.ntmps223
 go_wp2_with (at_make;refine wpList_make_full _ rfl _ _ 74 rfl w.heap.size 173 i0 _ _ Tryz.underlying74 hi hz0 hz1 .i64 .i64 _ _ n rfl rfl rfl rfl (by rw [hz2];omega) (by unfold maxLen;omega) (Nat.le_refl _) ?_;intro w1 hown hg)
 go_loopw [4] (fun i wr=>∃ k:Nat,k<=n/\i=.int .i64 k/\MS w.heap.size NB 173 (rPlanStep NB) wr (some ⟨w.heap.size,0,none⟩) n n (part zPlanStep l k)/\Below w.heap.size w wr) (fun i _=>n - (intOf i).toNat)
 case atStart=>exact⟨0,Nat.zero_le _,rfl,MS.madeE (rPlanStep_ok NB) hr.len hr.nb (Nat.le_refl _) eiPlanStep.hz (fun W=>zPlanStep_own W) hown,(Below.refl _ _).grown hg (Nat.le_refl _) (by simp)⟩
 case round =>
  obtain⟨k,hk,rfl,hO,hb⟩:=hrel
  by_cases hlt:k<n
  ·obtain⟨b,off,x,cs,rfl,hrep,hcell,hxk⟩:=(hr.below (rPlanStep_ok NB) hb).at_ hlt
   have hrep0:=hrep
   obtain⟨rfl,hKind,hAtom,hOrder⟩:=rPlanStep_rep.1 hrep
   have q0:wr.cell? ⟨b,off+k*3,none⟩=some (.int .i64 x.fKind):=by simpa [rPlanStep_size]using hcell 0 _ rfl
   have q1:wr.cell? ⟨b,off+k*3+1,none⟩=some (.int .i64 x.fAtom):=by simpa [rPlanStep_size]using hcell 1 _ rfl
   have q2:wr.cell? ⟨b,off+k*3+2,none⟩=some (.int .i64 x.fOrder):=by simpa [rPlanStep_size]using hcell 2 _ rfl
   clear hcell
   have hlt2:=hO.lt
   go_wp2_with fail
   refine(toPlanStep_c _ x _ hrep0).mono ?_
   rintro e w2 ⟨cs2,f2,rfl,ho2,fr2,hb2⟩
   have ho3:=ho2
   obtain⟨rfl,hfp,hKindQ,hAtomQ,hOrderQ⟩:=rPlanStep_own.1 ho3
   clear hfp
   have hO2:=hO.below (rPlanStep_ok NB) hb2
   have hfz:=hO2.frozenA
   obtain⟨u0q,g0⟩:∃ v,w2.cell? ⟨w.heap.size,k*3,none⟩=some v:=hO2.hasCell (j:=k*3) (by simp [rPlanStep_size]<;>omega)
   obtain⟨u1q,g1⟩:∃ v,w2.cell? ⟨w.heap.size,k*3+1,none⟩=some v:=hO2.hasCell (j:=k*3+1) (by simp [rPlanStep_size]<;>omega)
   obtain⟨u2q,g2⟩:∃ v,w2.cell? ⟨w.heap.size,k*3+2,none⟩=some v:=hO2.hasCell (j:=k*3+2) (by simp [rPlanStep_size]<;>omega)
   have hz2:=hb2.size
   go_wp2
   go_roundw
   case rel =>
    refine⟨k+1,by omega,by go_num,?_,?_⟩
    ·rw [<- part_set hxk.out];have hE:=hO.setE (rPlanStep_ok NB) hb2 hb.size hlt ho2 fr2;exact hE
    ·have hC:=hb.trans (hb2.mono hb.size)
     repeat' (first|exact hC|refine Below.setCell ?_ ?_ _|exact Nat.le_refl _)
   case measure=>simp [intOf];omega
  ·go_wp2
   go_ret
   exact⟨_,_,_,rfl,part_all _ l (k:=k) (by rw [hr.len];exact hlt)▸hO,hb⟩
theorem toPlan_c (cs:List Value) (x:PlanD) (w:World) (h:(rPlan NB).rep w cs x):Calls Tryz.prog 171 #[.agg cs.toArray] w (RetV (rPlan NB) x w):=by
 obtain⟨ASteps,nSteps,cSteps,rfl,hSteps⟩:=rPlan_rep.1 h
 have hB0:Below w.heap.size w w:=Below.refl _ _
 go_enter Tryz.func171,Tryz.ntmps171
 go_wp2_with fail
 refine(toPlanStepS_c _ _ _ _ _ (hSteps.below (rPlanStep_ok NB) (by repeat' (first|with_reducible exact hB0|with_reducible refine Below.setCell ?_ ?_ _|with_reducible refine Below.alloc ?_ ?_ _|(simp;done)|(simp;omega)|omega)))).mono ?_
 rintro e w1 ⟨AStepsQ,nStepsQ,cStepsQ,rfl,⟨fSteps,oSteps,frSteps⟩,hb1⟩
 have lt1:=oSteps.lt (rPlanStep_ok NB)
 have hB1:Below w.heap.size w w1:=Below.trans (by repeat' (first|with_reducible exact hB0|with_reducible refine Below.setCell ?_ ?_ _|with_reducible refine Below.alloc ?_ ?_ _|(simp;done)|(simp;omega)|omega)) (hb1.mono (by first|(simp;done)|(simp;omega)|omega))
 have hO1:Out (w.heap.size+3) w w1:=Out.below (by repeat' (first|with_reducible exact Out.refl _ _|with_reducible refine Out.setCell ?_ ?_ _|with_reducible refine Out.alloc ?_ _|(simp;done)|(simp;omega)|omega)) hb1
 have ge1:Fr (w.heap.size+3) (fSteps):=frSteps.mono (by first|(simp;done)|(simp;omega)|omega)
 have fp1:Fr w.heap.size (fSteps):=frSteps.mono (by first|(simp;done)|(simp;omega)|omega)
 have hz1:=hb1.size
 obtain⟨hc1,hf1⟩:=bcell hb1
 simp at hz1 hc1 hf1
 have ha1:w.heap.size<w1.heap.size:=by omega
 have hd1:w.heap.size+1<w1.heap.size:=by omega
 have he1:w.heap.size+1+1<w1.heap.size:=by omega
 clear hb1 frSteps
 go_wp2
 refine bodyPost_ret (v:=.agg #[.slice AStepsQ nStepsQ cStepsQ]) (by simp [results,Tryz.results171,go_sem,hc1,ha1,hd1,he1]) rfl ?_
 exact⟨_,fSteps,rfl,rPlan_own.2 ⟨AStepsQ,nStepsQ,cStepsQ,fSteps,rfl,rfl,(oSteps.out (rPlanStep_ok NB) ge1 (by repeat' (first|with_reducible exact Out.refl _ _|with_reducible refine Out.setCell ?_ ?_ _|with_reducible refine Out.alloc ?_ _|(simp;done)|(simp;omega)|omega)))⟩,(fp1),(by repeat' (first|with_reducible exact hB1|with_reducible refine Below.setCell ?_ ?_ _|with_reducible refine Below.alloc ?_ ?_ _|(simp;done)|(simp;omega)|omega))⟩
theorem toPlanS_c (A:Option Addr) (n cap:Nat) (l:List PlanD) (w:World) (hr:RS NB (rPlan NB) w A n cap l):Calls Tryz.prog 102 #[.slice A n cap] w (RetS 76 (rPlan NB) l w):=by
 have hn:=hr.bound
 obtain⟨i0,hi,hz0,hz1,hz2⟩:=info_parts eiPlan.hi
 go_enter Tryz.func102,Tryz.ntmps102
 go_wp2_with (at_make;refine wpList_make_full _ rfl _ _ 37 rfl w.heap.size 76 i0 _ _ Tryz.underlying37 hi hz0 hz1 .i64 .i64 _ _ n rfl rfl rfl rfl (by rw [hz2];omega) (by unfold maxLen;omega) (Nat.le_refl _) ?_;intro w1 hown hg)
 go_loopw [4] (fun i wr=>∃ k:Nat,k<=n/\i=.int .i64 k/\MS w.heap.size NB 76 (rPlan NB) wr (some ⟨w.heap.size,0,none⟩) n n (part zPlan l k)/\Below w.heap.size w wr) (fun i _=>n - (intOf i).toNat)
 case atStart=>exact⟨0,Nat.zero_le _,rfl,MS.madeE (rPlan_ok NB) hr.len hr.nb (Nat.le_refl _) eiPlan.hz (fun W=>zPlan_own W) hown,(Below.refl _ _).grown hg (Nat.le_refl _) (by simp)⟩
 case round =>
  obtain⟨k,hk,rfl,hO,hb⟩:=hrel
  by_cases hlt:k<n
  ·obtain⟨b,off,x,cs,rfl,hrep,hcell,hxk⟩:=(hr.below (rPlan_ok NB) hb).at_ hlt
   have hrep0:=hrep
   obtain⟨ASteps,nSteps,cSteps,rfl,hSteps⟩:=rPlan_rep.1 hrep
   have q0:wr.cell? ⟨b,off+k,none⟩=some (.slice ASteps nSteps cSteps):=by simpa [rPlan_size]using hcell 0 _ rfl
   clear hcell
   have hlt2:=hO.lt
   go_wp2_with fail
   refine(toPlan_c _ x _ hrep0).mono ?_
   rintro e w2 ⟨cs2,f2,rfl,ho2,fr2,hb2⟩
   have ho3:=ho2
   obtain⟨AStepsQ,nStepsQ,cStepsQ,fSteps,rfl,hfp,oSteps⟩:=rPlan_own.1 ho3
   clear hfp
   have hO2:=hO.below (rPlan_ok NB) hb2
   have hfz:=hO2.frozenA
   obtain⟨u0q,g0⟩:∃ v,w2.cell? ⟨w.heap.size,k,none⟩=some v:=hO2.hasCell (j:=k) (by simp [rPlan_size]<;>omega)
   have hz2:=hb2.size
   go_wp2
   go_roundw
   case rel =>
    refine⟨k+1,by omega,by go_num,?_,?_⟩
    ·rw [<- part_set hxk.out];have hE:=hO.setE (rPlan_ok NB) hb2 hb.size hlt ho2 fr2;simpa [setCells,rPlan_size]using hE
    ·have hC:=hb.trans (hb2.mono hb.size)
     repeat' (first|exact hC|refine Below.setCell ?_ ?_ _|exact Nat.le_refl _)
   case measure=>simp [intOf];omega
  ·go_wp2
   go_ret
   exact⟨_,_,_,rfl,part_all _ l (k:=k) (by rw [hr.len];exact hlt)▸hO,hb⟩
theorem toBouquet_c (cs:List Value) (x:BouquetD) (w:World) (h:(rBouquet NB).rep w cs x):Calls Tryz.prog 40 #[.agg cs.toArray] w (RetV (rBouquet NB) x w):=by
 obtain⟨ABoxLow,nBoxLow,cBoxLow,ABoxHigh,nBoxHigh,cBoxHigh,ABudgets,nBudgets,cBudgets,APlans,nPlans,cPlans,AContours,nContours,cContours,rfl,hVersion,hRatio,hSlack,hBoxLow,hBoxHigh,hBudgets,hPlans,hContours⟩:=rBouquet_rep.1 h
 have hB0:Below w.heap.size w w:=Below.refl _ _
 go_enter Tryz.func40,Tryz.ntmps40
 go_wp2_with fail
 refine(toBox_c _ x.fBox _ ((rBox_ok NB).keep (rBox_rep.2 ⟨ABoxLow,nBoxLow,cBoxLow,ABoxHigh,nBoxHigh,cBoxHigh,rfl,hBoxLow,hBoxHigh⟩) (cells_below (by repeat' (first|with_reducible exact hB0|with_reducible refine Below.setCell ?_ ?_ _|with_reducible refine Below.alloc ?_ ?_ _|(simp;done)|(simp;omega)|omega))))).mono ?_
 rintro e w1 ⟨cs1,fp1,rfl,o1,frBox,hb1⟩
 have lt1:=(rBox_ok NB).lt o1
 obtain⟨ABoxLowQ,nBoxLowQ,cBoxLowQ,ABoxHighQ,nBoxHighQ,cBoxHighQ,fBoxLow,fBoxHigh,rfl,rfl,oBoxLow,oBoxHigh⟩:=rBox_own.1 o1
 clear o1
 have hB1:Below w.heap.size w w1:=Below.trans (by repeat' (first|with_reducible exact hB0|with_reducible refine Below.setCell ?_ ?_ _|with_reducible refine Below.alloc ?_ ?_ _|(simp;done)|(simp;omega)|omega)) (hb1.mono (by first|(simp;done)|(simp;omega)|omega))
 have hO1:Out (w.heap.size+3) w w1:=Out.below (by repeat' (first|with_reducible exact Out.refl _ _|with_reducible refine Out.setCell ?_ ?_ _|with_reducible refine Out.alloc ?_ _|(simp;done)|(simp;omega)|omega)) hb1
 have ge1:Fr (w.heap.size+3) (fBoxLow++(fBoxHigh)):=frBox.mono (by first|(simp;done)|(simp;omega)|omega)
 have fp1:Fr w.heap.size (fBoxLow++(fBoxHigh)):=frBox.mono (by first|(simp;done)|(simp;omega)|omega)
 have ggBoxLow:Fr (w.heap.size+3) fBoxLow:=⟨by have:=ge1.nd;simp only [List.nodup_append,List.append_nil,List.nil_append]at this;grind,fun k hk=>ge1.ge k (by simp [hk])⟩
 have ggBoxHigh:Fr (w.heap.size+3) fBoxHigh:=⟨by have:=ge1.nd;simp only [List.nodup_append,List.append_nil,List.nil_append]at this;grind,fun k hk=>ge1.ge k (by simp [hk])⟩
 have hz1:=hb1.size
 obtain⟨hc1,hf1⟩:=bcell hb1
 simp at hz1 hc1 hf1
 have ha1:w.heap.size<w1.heap.size:=by omega
 have hd1:w.heap.size+1<w1.heap.size:=by omega
 have he1:w.heap.size+1+1<w1.heap.size:=by omega
 clear hb1 frBox
 go_wp2_with fail
 refine(toIntS_c _ _ _ _ _ (hBudgets.below rInt_ok (by repeat' (first|with_reducible exact hB1|with_reducible refine Below.setCell ?_ ?_ _|with_reducible refine Below.alloc ?_ ?_ _|(simp;done)|(simp;omega)|omega)))).mono ?_
 rintro e w2 ⟨ABudgetsQ,nBudgetsQ,cBudgetsQ,rfl,⟨fBudgets,oBudgets,frBudgets⟩,hb2⟩
 have lt2:=oBudgets.lt rInt_ok
 have hB2:Below w.heap.size w w2:=Below.trans (by repeat' (first|with_reducible exact hB1|with_reducible refine Below.setCell ?_ ?_ _|with_reducible refine Below.alloc ?_ ?_ _|(simp;done)|(simp;omega)|omega)) (hb2.mono (by first|(simp;done)|(simp;omega)|omega))
 have hO2:Out (w.heap.size+3) w1 w2:=Out.below (by repeat' (first|with_reducible exact Out.refl _ _|with_reducible refine Out.setCell ?_ ?_ _|with_reducible refine Out.alloc ?_ _|(simp;done)|(simp;omega)|omega)) hb2
 have ge2:Fr (w.heap.size+3) (fBudgets):=frBudgets.mono (by first|(simp;done)|(simp;omega)|omega)
 have fp2:Fr w1.heap.size (fBudgets):=frBudgets.mono (by first|(simp;done)|(simp;omega)|omega)
 have oBoxLow:=oBoxLow.out rInt_ok ggBoxLow hO2
 have oBoxHigh:=oBoxHigh.out rInt_ok ggBoxHigh hO2
 have hz2:=hb2.size
 obtain⟨hc2,hf2⟩:=bcell hb2
 simp at hz2 hc2 hf2
 have ha2:w.heap.size<w2.heap.size:=by omega
 have hd2:w.heap.size+1<w2.heap.size:=by omega
 have he2:w.heap.size+1+1<w2.heap.size:=by omega
 clear hb2 frBudgets
 go_wp2_with fail
 refine(toPlanS_c _ _ _ _ _ (hPlans.below (rPlan_ok NB) (by repeat' (first|with_reducible exact hB2|with_reducible refine Below.setCell ?_ ?_ _|with_reducible refine Below.alloc ?_ ?_ _|(simp;done)|(simp;omega)|omega)))).mono ?_
 rintro e w3 ⟨APlansQ,nPlansQ,cPlansQ,rfl,⟨fPlans,oPlans,frPlans⟩,hb3⟩
 have lt3:=oPlans.lt (rPlan_ok NB)
 have hB3:Below w.heap.size w w3:=Below.trans (by repeat' (first|with_reducible exact hB2|with_reducible refine Below.setCell ?_ ?_ _|with_reducible refine Below.alloc ?_ ?_ _|(simp;done)|(simp;omega)|omega)) (hb3.mono (by first|(simp;done)|(simp;omega)|omega))
 have hO3:Out (w.heap.size+3) w2 w3:=Out.below (by repeat' (first|with_reducible exact Out.refl _ _|with_reducible refine Out.setCell ?_ ?_ _|with_reducible refine Out.alloc ?_ _|(simp;done)|(simp;omega)|omega)) hb3
 have ge3:Fr (w.heap.size+3) (fPlans):=frPlans.mono (by first|(simp;done)|(simp;omega)|omega)
 have fp3:Fr w2.heap.size (fPlans):=frPlans.mono (by first|(simp;done)|(simp;omega)|omega)
 have oBoxLow:=oBoxLow.out rInt_ok ggBoxLow hO3
 have oBoxHigh:=oBoxHigh.out rInt_ok ggBoxHigh hO3
 have oBudgets:=oBudgets.out rInt_ok ge2 hO3
 have hz3:=hb3.size
 obtain⟨hc3,hf3⟩:=bcell hb3
 simp at hz3 hc3 hf3
 have ha3:w.heap.size<w3.heap.size:=by omega
 have hd3:w.heap.size+1<w3.heap.size:=by omega
 have he3:w.heap.size+1+1<w3.heap.size:=by omega
 clear hb3 frPlans
 go_wp2_with fail
 refine(toIntSS_c _ _ _ _ _ (hContours.below (rSlice_ok NB _ rInt_ok) (by repeat' (first|with_reducible exact hB3|with_reducible refine Below.setCell ?_ ?_ _|with_reducible refine Below.alloc ?_ ?_ _|(simp;done)|(simp;omega)|omega)))).mono ?_
 rintro e w4 ⟨AContoursQ,nContoursQ,cContoursQ,rfl,⟨fContours,oContours,frContours⟩,hb4⟩
 have lt4:=oContours.lt (rSlice_ok NB _ rInt_ok)
 have hB4:Below w.heap.size w w4:=Below.trans (by repeat' (first|with_reducible exact hB3|with_reducible refine Below.setCell ?_ ?_ _|with_reducible refine Below.alloc ?_ ?_ _|(simp;done)|(simp;omega)|omega)) (hb4.mono (by first|(simp;done)|(simp;omega)|omega))
 have hO4:Out (w.heap.size+3) w3 w4:=Out.below (by repeat' (first|with_reducible exact Out.refl _ _|with_reducible refine Out.setCell ?_ ?_ _|with_reducible refine Out.alloc ?_ _|(simp;done)|(simp;omega)|omega)) hb4
 have ge4:Fr (w.heap.size+3) (fContours):=frContours.mono (by first|(simp;done)|(simp;omega)|omega)
 have fp4:Fr w3.heap.size (fContours):=frContours.mono (by first|(simp;done)|(simp;omega)|omega)
 have oBoxLow:=oBoxLow.out rInt_ok ggBoxLow hO4
 have oBoxHigh:=oBoxHigh.out rInt_ok ggBoxHigh hO4
 have oBudgets:=oBudgets.out rInt_ok ge2 hO4
 have oPlans:=oPlans.out (rPlan_ok NB) ge3 hO4
 have hz4:=hb4.size
 obtain⟨hc4,hf4⟩:=bcell hb4
 simp at hz4 hc4 hf4
 have ha4:w.heap.size<w4.heap.size:=by omega
 have hd4:w.heap.size+1<w4.heap.size:=by omega
 have he4:w.heap.size+1+1<w4.heap.size:=by omega
 clear hb4 frContours
 go_wp2
 refine bodyPost_ret (v:=.agg #[.int .i64 x.fVersion,.int .i64 x.fRatio,.int .i64 x.fSlack,.slice ABoxLowQ nBoxLowQ cBoxLowQ,.slice ABoxHighQ nBoxHighQ cBoxHighQ,.slice ABudgetsQ nBudgetsQ cBudgetsQ,.slice APlansQ nPlansQ cPlansQ,.slice AContoursQ nContoursQ cContoursQ]) (by simp [results,Tryz.results40,go_sem,hc1,hc2,hc3,hc4,ha1,hd1,he1,ha2,hd2,he2,ha3,hd3,he3,ha4,hd4,he4]) rfl ?_
 exact⟨_,(fBoxLow++(fBoxHigh))++(fBudgets++(fPlans++(fContours))),rfl,rBouquet_own.2 ⟨ABoxLowQ,nBoxLowQ,cBoxLowQ,ABoxHighQ,nBoxHighQ,cBoxHighQ,ABudgetsQ,nBudgetsQ,cBudgetsQ,APlansQ,nPlansQ,cPlansQ,AContoursQ,nContoursQ,cContoursQ,fBoxLow,fBoxHigh,fBudgets,fPlans,fContours,rfl,rfl,hVersion,hRatio,hSlack,(oBoxLow.out rInt_ok ggBoxLow (by repeat' (first|with_reducible exact Out.refl _ _|with_reducible refine Out.setCell ?_ ?_ _|with_reducible refine Out.alloc ?_ _|(simp;done)|(simp;omega)|omega))),(oBoxHigh.out rInt_ok ggBoxHigh (by repeat' (first|with_reducible exact Out.refl _ _|with_reducible refine Out.setCell ?_ ?_ _|with_reducible refine Out.alloc ?_ _|(simp;done)|(simp;omega)|omega))),(oBudgets.out rInt_ok ge2 (by repeat' (first|with_reducible exact Out.refl _ _|with_reducible refine Out.setCell ?_ ?_ _|with_reducible refine Out.alloc ?_ _|(simp;done)|(simp;omega)|omega))),(oPlans.out (rPlan_ok NB) ge3 (by repeat' (first|with_reducible exact Out.refl _ _|with_reducible refine Out.setCell ?_ ?_ _|with_reducible refine Out.alloc ?_ _|(simp;done)|(simp;omega)|omega))),(oContours.out (rSlice_ok NB _ rInt_ok) ge4 (by repeat' (first|with_reducible exact Out.refl _ _|with_reducible refine Out.setCell ?_ ?_ _|with_reducible refine Out.alloc ?_ _|(simp;done)|(simp;omega)|omega)))⟩,((Fr.append (T:=w1.heap.size) fp1 ((Fr.append (T:=w2.heap.size) fp2 ((Fr.append (T:=w3.heap.size) fp3 (fp4) (fun k hk=>by have:=lt3 k hk;omega) (by omega))) (fun k hk=>by have:=lt2 k hk;omega) (by omega))) (fun k hk=>by have:=lt1 k hk;omega) (by omega))),(by repeat' (first|with_reducible exact hB4|with_reducible refine Below.setCell ?_ ?_ _|with_reducible refine Below.alloc ?_ ?_ _|(simp;done)|(simp;omega)|omega))⟩
end Go.Proofs.YtnlcfkpcmfljeaaGreat
