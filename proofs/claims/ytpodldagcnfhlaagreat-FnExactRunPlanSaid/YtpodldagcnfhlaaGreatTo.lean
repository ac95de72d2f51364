/-
  To
-/
import Derived.Test.YtpodldagcnfhlaaGreatTypes
namespace Go.Proofs.YtpodldagcnfhlaaGreat
open Go.RowKit
set_option linter.unusedVariables false
set_option linter.unusedSimpArgs false

theorem eiIntS:Ei Tryz.prog 33 32 (.slice none 0 0) (rSlice NB 3 rInt).size 24:=⟨by kernel_rfl,by kernel_rfl,rfl⟩
theorem eiTable:Ei Tryz.prog 24 108 (.agg #[.string ByteArray.empty,.int .i64 0,.slice none 0 0]) (rTable NB).size 48:=⟨by kernel_rfl,by kernel_rfl,rfl⟩
theorem eiAtom:Ei Tryz.prog 27 41 (.agg #[.string ByteArray.empty,.slice none 0 0]) (rAtom NB).size 40:=⟨by kernel_rfl,by kernel_rfl,rfl⟩
theorem eiCostStep:Ei Tryz.prog 82 254 (.agg #[.int .i64 0,.int .i64 0]) (rCostStep NB).size 16:=⟨by kernel_rfl,by kernel_rfl,rfl⟩
theorem eiPlanStep:Ei Tryz.prog 60 153 (.agg #[.int .i64 0,.int .i64 0,.int .i64 0]) (rPlanStep NB).size 24:=⟨by kernel_rfl,by kernel_rfl,rfl⟩
theorem eiObservation:Ei Tryz.prog 90 156 (.agg #[.int .i64 0,.int .i64 0,.bool false]) (rObservation NB).size 24:=⟨by kernel_rfl,by kernel_rfl,rfl⟩
theorem toIntS_s (A:Option Addr) (n cap:Nat) (l:List Int) (w:World) (hr:RS NB rInt w A n cap l):Calls Tryz.prog 209 #[.slice A n cap] w (RetS 3 rInt l w):=toIntS_c A n cap l w hr


set_option maxHeartbeats 800000 in
theorem toIntSS_c (A:Option Addr) (n cap:Nat) (l:List (List Int)) (w:World) (hr:RS NB (rSlice NB 3 rInt) w A n cap l):Calls Tryz.prog 208 #[.slice A n cap] w (RetS 32 (rSlice NB 3 rInt) l w):=by
 have hn:=hr.bound
 obtain⟨i0,hi,hz0,hz1,hz2⟩:=info_parts eiIntS.hi
 go_enter Tryz.func208,Tryz.ntmps208
 go_wp2_with (at_make;refine wpList_make_full _ rfl _ _ 33 rfl w.heap.size 32 i0 _ _ Tryz.underlying33 hi hz0 hz1 .i64 .i64 _ _ n rfl rfl rfl rfl (by rw [hz2];omega) (by unfold maxLen;omega) (Nat.le_refl _) ?_;intro w1 hown hg)
 go_loopw [4] (fun i wr=>∃ k:Nat,k<=n/\i=.int .i64 k/\MS w.heap.size NB 32 (rSlice NB 3 rInt) wr (some ⟨w.heap.size,0,none⟩) n n (part [] l k)/\Below w.heap.size w wr) (fun i _=>n - (intOf i).toNat)
 case atStart=>exact⟨0,Nat.zero_le _,rfl,MS.madeE (rSlice_ok NB _ rInt_ok) hr.len hr.nb (Nat.le_refl _) eiIntS.hz (fun W=>⟨none,0,0,rfl,rfl,Nat.zero_le _,[],[],World.ownsRow_nil W 0 _ _,rfl,trivial⟩) hown,(Below.refl _ _).grown hg (Nat.le_refl _) (by simp)⟩
 case round =>
  obtain⟨k,hk,rfl,hO,hb⟩:=hrel
  by_cases hlt:k<n
  ·obtain⟨b,off,x,cs,rfl,hrep,hcell,hxk⟩:=(hr.below (rSlice_ok NB _ rInt_ok) hb).at_ hlt
   have hrep0:=hrep
   obtain⟨Ae,ne,ce,rfl,hre⟩:=hrep
   have q0:wr.cell? ⟨b,off+k,none⟩=some (.slice Ae ne ce):=by simpa [rSlice]using hcell 0 _ rfl
   clear hcell
   have hlt2:=hO.lt
   go_wp2_with fail
   refine(toIntS_c _ _ _ _ _ hre).mono ?_
   rintro e w2 ⟨Aq,nq,cq,rfl,⟨f2,ho2,fr2⟩,hb2⟩
   have hO2:=hO.below (rSlice_ok NB _ rInt_ok) hb2
   have hfz:=hO2.frozenA
   obtain⟨u0q,g0⟩:∃ v,w2.cell? ⟨w.heap.size,k,none⟩=some v:=hO2.hasCell (j:=k) (by simp [rSlice]<;>omega)
   have hz2:=hb2.size
   go_wp2
   go_roundw
   case rel=>exact⟨k+1,by omega,by go_num,part_set hxk.out▸(by have:=hO.setE (r:=(rSlice NB 3 rInt)) (rSlice_ok NB _ rInt_ok) hb2 hb.size hlt (cs:=[.slice Aq nq cq]) ⟨Aq,nq,cq,rfl,ho2⟩ fr2;simpa [setCells,rSlice]using this),(hb.trans (hb2.mono hb.size)).setCell (Nat.le_refl _) _⟩
   case measure=>simp [intOf];omega
  ·go_wp2
   go_ret
   exact⟨_,_,_,rfl,part_all _ l (k:=k) (by rw [hr.len];exact hlt)▸hO,hb⟩

set_option maxHeartbeats 800000 in
theorem toTable_c (cs:List Value) (x:TableD) (w:World) (h:(rTable NB).rep w cs x):Calls Tryz.prog 149 #[.agg cs.toArray] w (RetV (rTable NB) x w):=by
 obtain⟨ARows,nRows,cRows,rfl,hName,hArity,hRows⟩:=rTable_rep.1 h
 have hB0:Below w.heap.size w w:=Below.refl _ _
 go_enter Tryz.func149,Tryz.ntmps149
 go_wp2_with fail
 refine(toIntSS_c _ _ _ _ _ (hRows.below (rSlice_ok NB _ rInt_ok) (by repeat' (first|with_reducible exact hB0|with_reducible refine Below.setCell ?_ ?_ _|with_reducible refine Below.alloc ?_ ?_ _|(simp;done)|(simp;omega)|omega)))).mono ?_
 rintro e w1 ⟨ARowsQ,nRowsQ,cRowsQ,rfl,⟨fRows,oRows,frRows⟩,hb1⟩
 have lt1:=oRows.lt (rSlice_ok NB _ rInt_ok)
 have hB1:Below w.heap.size w w1:=Below.trans (by repeat' (first|with_reducible exact hB0|with_reducible refine Below.setCell ?_ ?_ _|with_reducible refine Below.alloc ?_ ?_ _|(simp;done)|(simp;omega)|omega)) (hb1.mono (by first|(simp;done)|(simp;omega)|omega))
 have hO1:Out (w.heap.size+3) w w1:=Out.below (by repeat' (first|with_reducible exact Out.refl _ _|with_reducible refine Out.setCell ?_ ?_ _|with_reducible refine Out.alloc ?_ _|(simp;done)|(simp;omega)|omega)) hb1
 have ge1:Fr (w.heap.size+3) (fRows):=frRows.mono (by first|(simp;done)|(simp;omega)|omega)
 have fp1:Fr w.heap.size (fRows):=frRows.mono (by first|(simp;done)|(simp;omega)|omega)
 have hz1:=hb1.size
 obtain⟨hc1,hf1⟩:=bcell hb1
 simp at hz1 hc1 hf1
 have ha1:w.heap.size<w1.heap.size:=by omega
 have hd1:w.heap.size+1<w1.heap.size:=by omega
 have he1:w.heap.size+1+1<w1.heap.size:=by omega
 clear hb1 frRows
 go_wp2
 refine bodyPost_ret (v:=.agg #[.string x.fName,.int .i64 x.fArity,.slice ARowsQ nRowsQ cRowsQ]) (by simp [results,Tryz.results149,go_sem,hc1,ha1,hd1,he1]) rfl ?_
 exact⟨_,fRows,rfl,rTable_own.2 ⟨ARowsQ,nRowsQ,cRowsQ,fRows,rfl,rfl,hName,hArity,(oRows.out (rSlice_ok NB _ rInt_ok) ge1 (by repeat' (first|with_reducible exact Out.refl _ _|with_reducible refine Out.setCell ?_ ?_ _|with_reducible refine Out.alloc ?_ _|(simp;done)|(simp;omega)|omega)))⟩,(fp1),(by repeat' (first|with_reducible exact hB1|with_reducible refine Below.setCell ?_ ?_ _|with_reducible refine Below.alloc ?_ ?_ _|(simp;done)|(simp;omega)|omega))⟩

set_option maxHeartbeats 800000 in
theorem toTableS_c (A:Option Addr) (n cap:Nat) (l:List TableD) (w:World) (hr:RS NB (rTable NB) w A n cap l):Calls Tryz.prog 81 #[.slice A n cap] w (RetS 108 (rTable NB) l w):=by
 have hn:=hr.bound
 obtain⟨i0,hi,hz0,hz1,hz2⟩:=info_parts eiTable.hi
 go_enter Tryz.func81,Tryz.ntmps81
 go_wp2_with (at_make;refine wpList_make_full _ rfl _ _ 24 rfl w.heap.size 108 i0 _ _ Tryz.underlying24 hi hz0 hz1 .i64 .i64 _ _ n rfl rfl rfl rfl (by rw [hz2];omega) (by unfold maxLen;omega) (Nat.le_refl _) ?_;intro w1 hown hg)
 go_loopw [4] (fun i wr=>∃ k:Nat,k<=n/\i=.int .i64 k/\MS w.heap.size NB 108 (rTable NB) wr (some ⟨w.heap.size,0,none⟩) n n (part zTable l k)/\Below w.heap.size w wr) (fun i _=>n - (intOf i).toNat)
 case atStart=>exact⟨0,Nat.zero_le _,rfl,MS.madeE (rTable_ok NB) hr.len hr.nb (Nat.le_refl _) eiTable.hz (fun W=>zTable_own W) hown,(Below.refl _ _).grown hg (Nat.le_refl _) (by simp)⟩
 case round =>
  obtain⟨k,hk,rfl,hO,hb⟩:=hrel
  by_cases hlt:k<n
  ·obtain⟨b,off,x,cs,rfl,hrep,hcell,hxk⟩:=(hr.below (rTable_ok NB) hb).at_ hlt
   have hrep0:=hrep
   obtain⟨ARows,nRows,cRows,rfl,hName,hArity,hRows⟩:=rTable_rep.1 hrep
   have q0:wr.cell? ⟨b,off+k*3,none⟩=some (.string x.fName):=by simpa [rTable_size]using hcell 0 _ rfl
   have q1:wr.cell? ⟨b,off+k*3+1,none⟩=some (.int .i64 x.fArity):=by simpa [rTable_size]using hcell 1 _ rfl
   have q2:wr.cell? ⟨b,off+k*3+2,none⟩=some (.slice ARows nRows cRows):=by simpa [rTable_size]using hcell 2 _ rfl
   clear hcell
   have hlt2:=hO.lt
   go_wp2_with fail
   refine(toTable_c _ x _ hrep0).mono ?_
   rintro e w2 ⟨cs2,f2,rfl,ho2,fr2,hb2⟩
   have ho3:=ho2
   obtain⟨ARowsQ,nRowsQ,cRowsQ,fRows,rfl,hfp,hNameQ,hArityQ,oRows⟩:=rTable_own.1 ho3
   clear hfp
   have hO2:=hO.below (rTable_ok NB) hb2
   have hfz:=hO2.frozenA
   obtain⟨u0q,g0⟩:∃ v,w2.cell? ⟨w.heap.size,k*3,none⟩=some v:=hO2.hasCell (j:=k*3) (by simp [rTable_size]<;>omega)
   obtain⟨u1q,g1⟩:∃ v,w2.cell? ⟨w.heap.size,k*3+1,none⟩=some v:=hO2.hasCell (j:=k*3+1) (by simp [rTable_size]<;>omega)
   obtain⟨u2q,g2⟩:∃ v,w2.cell? ⟨w.heap.size,k*3+2,none⟩=some v:=hO2.hasCell (j:=k*3+2) (by simp [rTable_size]<;>omega)
   have hz2:=hb2.size
   go_wp2
   go_roundw
   case rel =>
    refine⟨k+1,by omega,by go_num,?_,?_⟩
    ·rw [<- part_set hxk.out];have hE:=hO.setE (rTable_ok NB) hb2 hb.size hlt ho2 fr2;exact hE
    ·have hC:=hb.trans (hb2.mono hb.size)
     repeat' (first|exact hC|refine Below.setCell ?_ ?_ _|exact Nat.le_refl _)
   case measure=>simp [intOf];omega
  ·go_wp2
   go_ret
   exact⟨_,_,_,rfl,part_all _ l (k:=k) (by rw [hr.len];exact hlt)▸hO,hb⟩

set_option maxHeartbeats 800000 in
theorem toDatabase_c (cs:List Value) (x:DatabaseD) (w:World) (h:(rDatabase NB).rep w cs x):Calls Tryz.prog 22 #[.agg cs.toArray] w (RetV (rDatabase NB) x w):=by
 obtain⟨ATables,nTables,cTables,rfl,hTables⟩:=rDatabase_rep.1 h
 have hB0:Below w.heap.size w w:=Below.refl _ _
 go_enter Tryz.func22,Tryz.ntmps22
 go_wp2_with fail
 refine(toTableS_c _ _ _ _ _ (hTables.below (rTable_ok NB) (by repeat' (first|with_reducible exact hB0|with_reducible refine Below.setCell ?_ ?_ _|with_reducible refine Below.alloc ?_ ?_ _|(simp;done)|(simp;omega)|omega)))).mono ?_
 rintro e w1 ⟨ATablesQ,nTablesQ,cTablesQ,rfl,⟨fTables,oTables,frTables⟩,hb1⟩
 have lt1:=oTables.lt (rTable_ok NB)
 have hB1:Below w.heap.size w w1:=Below.trans (by repeat' (first|with_reducible exact hB0|with_reducible refine Below.setCell ?_ ?_ _|with_reducible refine Below.alloc ?_ ?_ _|(simp;done)|(simp;omega)|omega)) (hb1.mono (by first|(simp;done)|(simp;omega)|omega))
 have hO1:Out (w.heap.size+3) w w1:=Out.below (by repeat' (first|with_reducible exact Out.refl _ _|with_reducible refine Out.setCell ?_ ?_ _|with_reducible refine Out.alloc ?_ _|(simp;done)|(simp;omega)|omega)) hb1
 have ge1:Fr (w.heap.size+3) (fTables):=frTables.mono (by first|(simp;done)|(simp;omega)|omega)
 have fp1:Fr w.heap.size (fTables):=frTables.mono (by first|(simp;done)|(simp;omega)|omega)
 have hz1:=hb1.size
 obtain⟨hc1,hf1⟩:=bcell hb1
 simp at hz1 hc1 hf1
 have ha1:w.heap.size<w1.heap.size:=by omega
 have hd1:w.heap.size+1<w1.heap.size:=by omega
 have he1:w.heap.size+1+1<w1.heap.size:=by omega
 clear hb1 frTables
 go_wp2
 refine bodyPost_ret (v:=.agg #[.slice ATablesQ nTablesQ cTablesQ]) (by simp [results,Tryz.results22,go_sem,hc1,ha1,hd1,he1]) rfl ?_
 exact⟨_,fTables,rfl,rDatabase_own.2 ⟨ATablesQ,nTablesQ,cTablesQ,fTables,rfl,rfl,(oTables.out (rTable_ok NB) ge1 (by repeat' (first|with_reducible exact Out.refl _ _|with_reducible refine Out.setCell ?_ ?_ _|with_reducible refine Out.alloc ?_ _|(simp;done)|(simp;omega)|omega)))⟩,(fp1),(by repeat' (first|with_reducible exact hB1|with_reducible refine Below.setCell ?_ ?_ _|with_reducible refine Below.alloc ?_ ?_ _|(simp;done)|(simp;omega)|omega))⟩



set_option maxHeartbeats 800000 in
theorem toAtom_c (cs:List Value) (x:AtomD) (w:World) (h:(rAtom NB).rep w cs x):Calls Tryz.prog 150 #[.agg cs.toArray] w (RetV (rAtom NB) x w):=by
 obtain⟨AVars,nVars,cVars,rfl,hName,hVars⟩:=rAtom_rep.1 h
 have hB0:Below w.heap.size w w:=Below.refl _ _
 go_enter Tryz.func150,Tryz.ntmps150
 go_wp2_with fail
 refine(toIntS_c _ _ _ _ _ (hVars.below rInt_ok (by repeat' (first|with_reducible exact hB0|with_reducible refine Below.setCell ?_ ?_ _|with_reducible refine Below.alloc ?_ ?_ _|(simp;done)|(simp;omega)|omega)))).mono ?_
 rintro e w1 ⟨AVarsQ,nVarsQ,cVarsQ,rfl,⟨fVars,oVars,frVars⟩,hb1⟩
 have lt1:=oVars.lt rInt_ok
 have hB1:Below w.heap.size w w1:=Below.trans (by repeat' (first|with_reducible exact hB0|with_reducible refine Below.setCell ?_ ?_ _|with_reducible refine Below.alloc ?_ ?_ _|(simp;done)|(simp;omega)|omega)) (hb1.mono (by first|(simp;done)|(simp;omega)|omega))
 have hO1:Out (w.heap.size+3) w w1:=Out.below (by repeat' (first|with_reducible exact Out.refl _ _|with_reducible refine Out.setCell ?_ ?_ _|with_reducible refine Out.alloc ?_ _|(simp;done)|(simp;omega)|omega)) hb1
 have ge1:Fr (w.heap.size+3) (fVars):=frVars.mono (by first|(simp;done)|(simp;omega)|omega)
 have fp1:Fr w.heap.size (fVars):=frVars.mono (by first|(simp;done)|(simp;omega)|omega)
 have hz1:=hb1.size
 obtain⟨hc1,hf1⟩:=bcell hb1
 simp at hz1 hc1 hf1
 have ha1:w.heap.size<w1.heap.size:=by omega
 have hd1:w.heap.size+1<w1.heap.size:=by omega
 have he1:w.heap.size+1+1<w1.heap.size:=by omega
 clear hb1 frVars
 go_wp2
 refine bodyPost_ret (v:=.agg #[.string x.fName,.slice AVarsQ nVarsQ cVarsQ]) (by simp [results,Tryz.results150,go_sem,hc1,ha1,hd1,he1]) rfl ?_
 exact⟨_,fVars,rfl,rAtom_own.2 ⟨AVarsQ,nVarsQ,cVarsQ,fVars,rfl,rfl,hName,(oVars.out rInt_ok ge1 (by repeat' (first|with_reducible exact Out.refl _ _|with_reducible refine Out.setCell ?_ ?_ _|with_reducible refine Out.alloc ?_ _|(simp;done)|(simp;omega)|omega)))⟩,(fp1),(by repeat' (first|with_reducible exact hB1|with_reducible refine Below.setCell ?_ ?_ _|with_reducible refine Below.alloc ?_ ?_ _|(simp;done)|(simp;omega)|omega))⟩

set_option maxHeartbeats 800000 in
theorem toAtomS_c (A:Option Addr) (n cap:Nat) (l:List AtomD) (w:World) (hr:RS NB (rAtom NB) w A n cap l):Calls Tryz.prog 82 #[.slice A n cap] w (RetS 41 (rAtom NB) l w):=by
 have hn:=hr.bound
 obtain⟨i0,hi,hz0,hz1,hz2⟩:=info_parts eiAtom.hi
 go_enter Tryz.func82,Tryz.ntmps82
 go_wp2_with (at_make;refine wpList_make_full _ rfl _ _ 27 rfl w.heap.size 41 i0 _ _ Tryz.underlying27 hi hz0 hz1 .i64 .i64 _ _ n rfl rfl rfl rfl (by rw [hz2];omega) (by unfold maxLen;omega) (Nat.le_refl _) ?_;intro w1 hown hg)
 go_loopw [4] (fun i wr=>∃ k:Nat,k<=n/\i=.int .i64 k/\MS w.heap.size NB 41 (rAtom NB) wr (some ⟨w.heap.size,0,none⟩) n n (part zAtom l k)/\Below w.heap.size w wr) (fun i _=>n - (intOf i).toNat)
 case atStart=>exact⟨0,Nat.zero_le _,rfl,MS.madeE (rAtom_ok NB) hr.len hr.nb (Nat.le_refl _) eiAtom.hz (fun W=>zAtom_own W) hown,(Below.refl _ _).grown hg (Nat.le_refl _) (by simp)⟩
 case round =>
  obtain⟨k,hk,rfl,hO,hb⟩:=hrel
  by_cases hlt:k<n
  ·obtain⟨b,off,x,cs,rfl,hrep,hcell,hxk⟩:=(hr.below (rAtom_ok NB) hb).at_ hlt
   have hrep0:=hrep
   obtain⟨AVars,nVars,cVars,rfl,hName,hVars⟩:=rAtom_rep.1 hrep
   have q0:wr.cell? ⟨b,off+k*2,none⟩=some (.string x.fName):=by simpa [rAtom_size]using hcell 0 _ rfl
   have q1:wr.cell? ⟨b,off+k*2+1,none⟩=some (.slice AVars nVars cVars):=by simpa [rAtom_size]using hcell 1 _ rfl
   clear hcell
   have hlt2:=hO.lt
   go_wp2_with fail
   refine(toAtom_c _ x _ hrep0).mono ?_
   rintro e w2 ⟨cs2,f2,rfl,ho2,fr2,hb2⟩
   have ho3:=ho2
   obtain⟨AVarsQ,nVarsQ,cVarsQ,fVars,rfl,hfp,hNameQ,oVars⟩:=rAtom_own.1 ho3
   clear hfp
   have hO2:=hO.below (rAtom_ok NB) hb2
   have hfz:=hO2.frozenA
   obtain⟨u0q,g0⟩:∃ v,w2.cell? ⟨w.heap.size,k*2,none⟩=some v:=hO2.hasCell (j:=k*2) (by simp [rAtom_size]<;>omega)
   obtain⟨u1q,g1⟩:∃ v,w2.cell? ⟨w.heap.size,k*2+1,none⟩=some v:=hO2.hasCell (j:=k*2+1) (by simp [rAtom_size]<;>omega)
   have hz2:=hb2.size
   go_wp2
   go_roundw
   case rel =>
    refine⟨k+1,by omega,by go_num,?_,?_⟩
    ·rw [<- part_set hxk.out];have hE:=hO.setE (rAtom_ok NB) hb2 hb.size hlt ho2 fr2;exact hE
    ·have hC:=hb.trans (hb2.mono hb.size)
     repeat' (first|exact hC|refine Below.setCell ?_ ?_ _|exact Nat.le_refl _)
   case measure=>simp [intOf];omega
  ·go_wp2
   go_ret
   exact⟨_,_,_,rfl,part_all _ l (k:=k) (by rw [hr.len];exact hlt)▸hO,hb⟩

set_option maxHeartbeats 800000 in
theorem toQuery_c (cs:List Value) (x:QueryD) (w:World) (h:(rQuery NB).rep w cs x):Calls Tryz.prog 23 #[.agg cs.toArray] w (RetV (rQuery NB) x w):=by
 obtain⟨AAtoms,nAtoms,cAtoms,rfl,hVariableCount,hAtoms⟩:=rQuery_rep.1 h
 have hB0:Below w.heap.size w w:=Below.refl _ _
 go_enter Tryz.func23,Tryz.ntmps23
 go_wp2_with fail
 refine(toAtomS_c _ _ _ _ _ (hAtoms.below (rAtom_ok NB) (by repeat' (first|with_reducible exact hB0|with_reducible refine Below.setCell ?_ ?_ _|with_reducible refine Below.alloc ?_ ?_ _|(simp;done)|(simp;omega)|omega)))).mono ?_
 rintro e w1 ⟨AAtomsQ,nAtomsQ,cAtomsQ,rfl,⟨fAtoms,oAtoms,frAtoms⟩,hb1⟩
 have lt1:=oAtoms.lt (rAtom_ok NB)
 have hB1:Below w.heap.size w w1:=Below.trans (by repeat' (first|with_reducible exact hB0|with_reducible refine Below.setCell ?_ ?_ _|with_reducible refine Below.alloc ?_ ?_ _|(simp;done)|(simp;omega)|omega)) (hb1.mono (by first|(simp;done)|(simp;omega)|omega))
 have hO1:Out (w.heap.size+3) w w1:=Out.below (by repeat' (first|with_reducible exact Out.refl _ _|with_reducible refine Out.setCell ?_ ?_ _|with_reducible refine Out.alloc ?_ _|(simp;done)|(simp;omega)|omega)) hb1
 have ge1:Fr (w.heap.size+3) (fAtoms):=frAtoms.mono (by first|(simp;done)|(simp;omega)|omega)
 have fp1:Fr w.heap.size (fAtoms):=frAtoms.mono (by first|(simp;done)|(simp;omega)|omega)
 have hz1:=hb1.size
 obtain⟨hc1,hf1⟩:=bcell hb1
 simp at hz1 hc1 hf1
 have ha1:w.heap.size<w1.heap.size:=by omega
 have hd1:w.heap.size+1<w1.heap.size:=by omega
 have he1:w.heap.size+1+1<w1.heap.size:=by omega
 clear hb1 frAtoms
 go_wp2
 refine bodyPost_ret (v:=.agg #[.int .i64 x.fVariableCount,.slice AAtomsQ nAtomsQ cAtomsQ]) (by simp [results,Tryz.results23,go_sem,hc1,ha1,hd1,he1]) rfl ?_
 exact⟨_,fAtoms,rfl,rQuery_own.2 ⟨AAtomsQ,nAtomsQ,cAtomsQ,fAtoms,rfl,rfl,hVariableCount,(oAtoms.out (rAtom_ok NB) ge1 (by repeat' (first|with_reducible exact Out.refl _ _|with_reducible refine Out.setCell ?_ ?_ _|with_reducible refine Out.alloc ?_ _|(simp;done)|(simp;omega)|omega)))⟩,(fp1),(by repeat' (first|with_reducible exact hB1|with_reducible refine Below.setCell ?_ ?_ _|with_reducible refine Below.alloc ?_ ?_ _|(simp;done)|(simp;omega)|omega))⟩



















set_option maxHeartbeats 800000 in
theorem toCostStep_c (cs:List Value) (x:CostStepD) (w:World) (h:(rCostStep NB).rep w cs x):Calls Tryz.prog 216 #[.agg cs.toArray] w (RetV (rCostStep NB) x w):=by
 obtain⟨rfl,hFrom,hAdd⟩:=rCostStep_rep.1 h
 have hB0:Below w.heap.size w w:=Below.refl _ _
 go_enter Tryz.func216,Tryz.ntmps216
 go_wp2
 refine bodyPost_ret (v:=.agg #[.int .i64 x.fFrom,.int .i64 x.fAdd]) (by simp [results,Tryz.results216,go_sem]) rfl ?_
 exact⟨_,[],rfl,rCostStep_own.2 ⟨rfl,rfl,hFrom,hAdd⟩,(Fr.nil _),(by repeat' (first|with_reducible exact hB0|with_reducible refine Below.setCell ?_ ?_ _|with_reducible refine Below.alloc ?_ ?_ _|(simp;done)|(simp;omega)|omega))⟩

set_option maxHeartbeats 800000 in
theorem toCostStepS_c (A:Option Addr) (n cap:Nat) (l:List CostStepD) (w:World) (hr:RS NB (rCostStep NB) w A n cap l):Calls Tryz.prog 164 #[.slice A n cap] w (RetS 254 (rCostStep NB) l w):=by
 have hn:=hr.bound
 obtain⟨i0,hi,hz0,hz1,hz2⟩:=info_parts eiCostStep.hi
 go_enter Tryz.func164,Tryz.ntmps164
 go_wp2_with (at_make;refine wpList_make_full _ rfl _ _ 82 rfl w.heap.size 254 i0 _ _ Tryz.underlying82 hi hz0 hz1 .i64 .i64 _ _ n rfl rfl rfl rfl (by rw [hz2];omega) (by unfold maxLen;omega) (Nat.le_refl _) ?_;intro w1 hown hg)
 go_loopw [4] (fun i wr=>∃ k:Nat,k<=n/\i=.int .i64 k/\MS w.heap.size NB 254 (rCostStep NB) wr (some ⟨w.heap.size,0,none⟩) n n (part zCostStep l k)/\Below w.heap.size w wr) (fun i _=>n - (intOf i).toNat)
 case atStart=>exact⟨0,Nat.zero_le _,rfl,MS.madeE (rCostStep_ok NB) hr.len hr.nb (Nat.le_refl _) eiCostStep.hz (fun W=>zCostStep_own W) hown,(Below.refl _ _).grown hg (Nat.le_refl _) (by simp)⟩
 case round =>
  obtain⟨k,hk,rfl,hO,hb⟩:=hrel
  by_cases hlt:k<n
  ·obtain⟨b,off,x,cs,rfl,hrep,hcell,hxk⟩:=(hr.below (rCostStep_ok NB) hb).at_ hlt
   have hrep0:=hrep
   obtain⟨rfl,hFrom,hAdd⟩:=rCostStep_rep.1 hrep
   have q0:wr.cell? ⟨b,off+k*2,none⟩=some (.int .i64 x.fFrom):=by simpa [rCostStep_size]using hcell 0 _ rfl
   have q1:wr.cell? ⟨b,off+k*2+1,none⟩=some (.int .i64 x.fAdd):=by simpa [rCostStep_size]using hcell 1 _ rfl
   clear hcell
   have hlt2:=hO.lt
   go_wp2_with fail
   refine(toCostStep_c _ x _ hrep0).mono ?_
   rintro e w2 ⟨cs2,f2,rfl,ho2,fr2,hb2⟩
   have ho3:=ho2
   obtain⟨rfl,hfp,hFromQ,hAddQ⟩:=rCostStep_own.1 ho3
   clear hfp
   have hO2:=hO.below (rCostStep_ok NB) hb2
   have hfz:=hO2.frozenA
   obtain⟨u0q,g0⟩:∃ v,w2.cell? ⟨w.heap.size,k*2,none⟩=some v:=hO2.hasCell (j:=k*2) (by simp [rCostStep_size]<;>omega)
   obtain⟨u1q,g1⟩:∃ v,w2.cell? ⟨w.heap.size,k*2+1,none⟩=some v:=hO2.hasCell (j:=k*2+1) (by simp [rCostStep_size]<;>omega)
   have hz2:=hb2.size
   go_wp2
   go_roundw
   case rel =>
    refine⟨k+1,by omega,by go_num,?_,?_⟩
    ·rw [<- part_set hxk.out];have hE:=hO.setE (rCostStep_ok NB) hb2 hb.size hlt ho2 fr2;exact hE
    ·have hC:=hb.trans (hb2.mono hb.size)
     repeat' (first|exact hC|refine Below.setCell ?_ ?_ _|exact Nat.le_refl _)
   case measure=>simp [intOf];omega
  ·go_wp2
   go_ret
   exact⟨_,_,_,rfl,part_all _ l (k:=k) (by rw [hr.len];exact hlt)▸hO,hb⟩

set_option maxHeartbeats 800000 in
theorem toOperator_c (cs:List Value) (x:OperatorD) (w:World) (h:(rOperator NB).rep w cs x):Calls Tryz.prog 97 #[.agg cs.toArray] w (RetV (rOperator NB) x w):=by
 obtain⟨ASteps,nSteps,cSteps,rfl,hFixed,hPerLeft,hPerRight,hPerOutput,hPerPair,hSteps⟩:=rOperator_rep.1 h
 have hB0:Below w.heap.size w w:=Below.refl _ _
 go_enter Tryz.func97,Tryz.ntmps97
 go_wp2_with fail
 refine(toCostStepS_c _ _ _ _ _ (hSteps.below (rCostStep_ok NB) (by repeat' (first|with_reducible exact hB0|with_reducible refine Below.setCell ?_ ?_ _|with_reducible refine Below.alloc ?_ ?_ _|(simp;done)|(simp;omega)|omega)))).mono ?_
 rintro e w1 ⟨AStepsQ,nStepsQ,cStepsQ,rfl,⟨fSteps,oSteps,frSteps⟩,hb1⟩
 have lt1:=oSteps.lt (rCostStep_ok NB)
 have hB1:Below w.heap.size w w1:=Below.trans (by repeat' (first|with_reducible exact hB0|with_reducible refine Below.setCell ?_ ?_ _|with_reducible refine Below.alloc ?_ ?_ _|(simp;done)|(simp;omega)|omega)) (hb1.mono (by first|(simp;done)|(simp;omega)|omega))
 have hO1:Out (w.heap.size+3) w w1:=Out.below (by repeat' (first|with_reducible exact Out.refl _ _|with_reducible refine Out.setCell ?_ ?_ _|with_reducible refine Out.alloc ?_ _|(simp;done)|(simp;omega)|omega)) hb1
 have ge1:Fr (w.heap.size+3) (fSteps):=frSteps.mono (by first|(simp;done)|(simp;omega)|omega)
 have fp1:Fr w.heap.size (fSteps):=frSteps.mono (by first|(simp;done)|(simp;omega)|omega)
 have hz1:=hb1.size
 obtain⟨hc1,hf1⟩:=bcell hb1
 simp at hz1 hc1 hf1
 have ha1:w.heap.size<w1.heap.size:=by omega
 have hd1:w.heap.size+1<w1.heap.size:=by omega
 have he1:w.heap.size+1+1<w1.heap.size:=by omega
 clear hb1 frSteps
 go_wp2
 refine bodyPost_ret (v:=.agg #[.int .i64 x.fFixed,.int .i64 x.fPerLeft,.int .i64 x.fPerRight,.int .i64 x.fPerOutput,.int .i64 x.fPerPair,.slice AStepsQ nStepsQ cStepsQ]) (by simp [results,Tryz.results97,go_sem,hc1,ha1,hd1,he1]) rfl ?_
 exact⟨_,fSteps,rfl,rOperator_own.2 ⟨AStepsQ,nStepsQ,cStepsQ,fSteps,rfl,rfl,hFixed,hPerLeft,hPerRight,hPerOutput,hPerPair,(oSteps.out (rCostStep_ok NB) ge1 (by repeat' (first|with_reducible exact Out.refl _ _|with_reducible refine Out.setCell ?_ ?_ _|with_reducible refine Out.alloc ?_ _|(simp;done)|(simp;omega)|omega)))⟩,(fp1),(by repeat' (first|with_reducible exact hB1|with_reducible refine Below.setCell ?_ ?_ _|with_reducible refine Below.alloc ?_ ?_ _|(simp;done)|(simp;omega)|omega))⟩

set_option maxHeartbeats 800000 in
theorem toPlanStep_c (cs:List Value) (x:PlanStepD) (w:World) (h:(rPlanStep NB).rep w cs x):Calls Tryz.prog 151 #[.agg cs.toArray] w (RetV (rPlanStep NB) x w):=by
 obtain⟨rfl,hKind,hAtom,hOrder⟩:=rPlanStep_rep.1 h
 have hB0:Below w.heap.size w w:=Below.refl _ _
 go_enter Tryz.func151,Tryz.ntmps151
 go_wp2
 refine bodyPost_ret (v:=.agg #[.int .i64 x.fKind,.int .i64 x.fAtom,.int .i64 x.fOrder]) (by simp [results,Tryz.results151,go_sem]) rfl ?_
 exact⟨_,[],rfl,rPlanStep_own.2 ⟨rfl,rfl,hKind,hAtom,hOrder⟩,(Fr.nil _),(by repeat' (first|with_reducible exact hB0|with_reducible refine Below.setCell ?_ ?_ _|with_reducible refine Below.alloc ?_ ?_ _|(simp;done)|(simp;omega)|omega))⟩

set_option maxHeartbeats 800000 in
theorem toPlanStepS_c (A:Option Addr) (n cap:Nat) (l:List PlanStepD) (w:World) (hr:RS NB (rPlanStep NB) w A n cap l):Calls Tryz.prog 83 #[.slice A n cap] w (RetS 153 (rPlanStep NB) l w):=by
 have hn:=hr.bound
 obtain⟨i0,hi,hz0,hz1,hz2⟩:=info_parts eiPlanStep.hi
 go_enter Tryz.func83,Tryz.ntmps83
 go_wp2_with (at_make;refine wpList_make_full _ rfl _ _ 60 rfl w.heap.size 153 i0 _ _ Tryz.underlying60 hi hz0 hz1 .i64 .i64 _ _ n rfl rfl rfl rfl (by rw [hz2];omega) (by unfold maxLen;omega) (Nat.le_refl _) ?_;intro w1 hown hg)
 go_loopw [4] (fun i wr=>∃ k:Nat,k<=n/\i=.int .i64 k/\MS w.heap.size NB 153 (rPlanStep NB) wr (some ⟨w.heap.size,0,none⟩) n n (part zPlanStep l k)/\Below w.heap.size w wr) (fun i _=>n - (intOf i).toNat)
 case atStart=>exact⟨0,Nat.zero_le _,rfl,MS.madeE (rPlanStep_ok NB) hr.len hr.nb (Nat.le_refl _) eiPlanStep.hz (fun W=>zPlanStep_own W) hown,(Below.refl _ _).grown hg (Nat.le_refl _) (by simp)⟩
 case round =>
  obtain⟨k,hk,rfl,hO,hb⟩:=hrel
  by_cases hlt:k<n
  ·obtain⟨b,off,x,cs,rfl,hrep,hcell,hxk⟩:=(hr.below (rPlanStep_ok NB) hb).at_ hlt
   have hrep0:=hrep
   obtain⟨rfl,hKind,hAtom,hOrder⟩:=rPlanStep_rep.1 hrep
   have q0:wr.cell? ⟨b,off+k*3,none⟩=some (.int .i64 x.fKind):=by simpa [rPlanStep_size]using hcell 0 _ rfl
   have q1:wr.cell? ⟨b,off+k*3+1,none⟩=some (.int .i64 x.fAtom):=by simpa [rPlanStep_size]using hcell 1 _ rfl
   have q2:wr.cell? ⟨b,off+k*3+2,none⟩=some (.int .i64 x.fOrder):=by simpa [rPlanStep_size]using hcell 2 _ rfl
   clear hcell
   have hlt2:=hO.lt
   go_wp2_with fail
   refine(toPlanStep_c _ x _ hrep0).mono ?_
   rintro e w2 ⟨cs2,f2,rfl,ho2,fr2,hb2⟩
   have ho3:=ho2
   obtain⟨rfl,hfp,hKindQ,hAtomQ,hOrderQ⟩:=rPlanStep_own.1 ho3
   clear hfp
   have hO2:=hO.below (rPlanStep_ok NB) hb2
   have hfz:=hO2.frozenA
   obtain⟨u0q,g0⟩:∃ v,w2.cell? ⟨w.heap.size,k*3,none⟩=some v:=hO2.hasCell (j:=k*3) (by simp [rPlanStep_size]<;>omega)
   obtain⟨u1q,g1⟩:∃ v,w2.cell? ⟨w.heap.size,k*3+1,none⟩=some v:=hO2.hasCell (j:=k*3+1) (by simp [rPlanStep_size]<;>omega)
   obtain⟨u2q,g2⟩:∃ v,w2.cell? ⟨w.heap.size,k*3+2,none⟩=some v:=hO2.hasCell (j:=k*3+2) (by simp [rPlanStep_size]<;>omega)
   have hz2:=hb2.size
   go_wp2
   go_roundw
   case rel =>
    refine⟨k+1,by omega,by go_num,?_,?_⟩
    ·rw [<- part_set hxk.out];have hE:=hO.setE (rPlanStep_ok NB) hb2 hb.size hlt ho2 fr2;exact hE
    ·have hC:=hb.trans (hb2.mono hb.size)
     repeat' (first|exact hC|refine Below.setCell ?_ ?_ _|exact Nat.le_refl _)
   case measure=>simp [intOf];omega
  ·go_wp2
   go_ret
   exact⟨_,_,_,rfl,part_all _ l (k:=k) (by rw [hr.len];exact hlt)▸hO,hb⟩

set_option maxHeartbeats 800000 in
theorem toPlan_c (cs:List Value) (x:PlanD) (w:World) (h:(rPlan NB).rep w cs x):Calls Tryz.prog 24 #[.agg cs.toArray] w (RetV (rPlan NB) x w):=by
 obtain⟨ASteps,nSteps,cSteps,rfl,hSteps⟩:=rPlan_rep.1 h
 have hB0:Below w.heap.size w w:=Below.refl _ _
 go_enter Tryz.func24,Tryz.ntmps24
 go_wp2_with fail
 refine(toPlanStepS_c _ _ _ _ _ (hSteps.below (rPlanStep_ok NB) (by repeat' (first|with_reducible exact hB0|with_reducible refine Below.setCell ?_ ?_ _|with_reducible refine Below.alloc ?_ ?_ _|(simp;done)|(simp;omega)|omega)))).mono ?_
 rintro e w1 ⟨AStepsQ,nStepsQ,cStepsQ,rfl,⟨fSteps,oSteps,frSteps⟩,hb1⟩
 have lt1:=oSteps.lt (rPlanStep_ok NB)
 have hB1:Below w.heap.size w w1:=Below.trans (by repeat' (first|with_reducible exact hB0|with_reducible refine Below.setCell ?_ ?_ _|with_reducible refine Below.alloc ?_ ?_ _|(simp;done)|(simp;omega)|omega)) (hb1.mono (by first|(simp;done)|(simp;omega)|omega))
 have hO1:Out (w.heap.size+3) w w1:=Out.below (by repeat' (first|with_reducible exact Out.refl _ _|with_reducible refine Out.setCell ?_ ?_ _|with_reducible refine Out.alloc ?_ _|(simp;done)|(simp;omega)|omega)) hb1
 have ge1:Fr (w.heap.size+3) (fSteps):=frSteps.mono (by first|(simp;done)|(simp;omega)|omega)
 have fp1:Fr w.heap.size (fSteps):=frSteps.mono (by first|(simp;done)|(simp;omega)|omega)
 have hz1:=hb1.size
 obtain⟨hc1,hf1⟩:=bcell hb1
 simp at hz1 hc1 hf1
 have ha1:w.heap.size<w1.heap.size:=by omega
 have hd1:w.heap.size+1<w1.heap.size:=by omega
 have he1:w.heap.size+1+1<w1.heap.size:=by omega
 clear hb1 frSteps
 go_wp2
 refine bodyPost_ret (v:=.agg #[.slice AStepsQ nStepsQ cStepsQ]) (by simp [results,Tryz.results24,go_sem,hc1,ha1,hd1,he1]) rfl ?_
 exact⟨_,fSteps,rfl,rPlan_own.2 ⟨AStepsQ,nStepsQ,cStepsQ,fSteps,rfl,rfl,(oSteps.out (rPlanStep_ok NB) ge1 (by repeat' (first|with_reducible exact Out.refl _ _|with_reducible refine Out.setCell ?_ ?_ _|with_reducible refine Out.alloc ?_ _|(simp;done)|(simp;omega)|omega)))⟩,(fp1),(by repeat' (first|with_reducible exact hB1|with_reducible refine Below.setCell ?_ ?_ _|with_reducible refine Below.alloc ?_ ?_ _|(simp;done)|(simp;omega)|omega))⟩




















end Go.Proofs.YtpodldagcnfhlaaGreat
